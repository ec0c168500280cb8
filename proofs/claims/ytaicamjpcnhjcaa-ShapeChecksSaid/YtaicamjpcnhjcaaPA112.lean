/- codemasonref.ShapeSize of the translation: what the machine's call comes to. -/
import Derived.Test.YtaicamjpcnhjcaaPA1
namespace Go.Proofs.Ytaicamjpcnhjcaa.PA
open Go.RowKit Go.Proofs.YtaicamjpcnhjcaaW.PrintWords Go.Proofs.YtaicamjpcnhjcaaW.PrintLast Go.Proofs.YtaicamjpcnhjcaaW.PrintMore
set_option linter.unusedVariables false
set_option linter.unusedSimpArgs false
attribute [local go_sem] max2_int min2_int max_two min_two

/-- One part more, in so far as there is one. -/
def ssPart (go : List S127 → Option (Int × Int × Int)) (p : List S127) (a : Int × Int × Int) : Option (Int × Int × Int) :=
  (go p).bind fun r => some (wrap64 (a.1 + r.1), wrap64 (a.2.1 + r.2.1), if a.2.2 < r.2.2 then r.2.2 else a.2.2)
def ssParts (go : List S127 → Option (Int × Int × Int)) : List (List S127) → Int × Int × Int → Option (Int × Int × Int)
  | [], a => some a
  | p :: t, a => (ssPart go p a).bind (ssParts go t)
def ssLoop (go : List S127 → Option (Int × Int × Int)) : List S127 → Int × Int × Int → Option (Int × Int × Int)
  | [], a => some a
  | x :: t, a => (ssParts go [x.f3, x.f4] (a.1, wrap64 (a.2.1 + x.f2.length), a.2.2)).bind (ssLoop go t)
def codemasonref_ShapeSize.f : Nat → List S127 → Int → Option (Int × Int × Int)
  | 0, _, _ => none
  | k + 1, l, deep => if l.length = 0 then some (0, 0, wrap64 (deep - 1)) else if (l.length : Int) > 8 ∨ deep > 5 then some (l.length, 0, deep) else ssLoop (fun p => codemasonref_ShapeSize.f k p (wrap64 (deep + 1))) l (l.length, 0, deep)
theorem ssLoop_at (go : List S127 → Option (Int × Int × Int)) {l : List S127} {i : Nat} (h : i < l.length) (a : Int × Int × Int) : ssLoop go (l.drop i) a = (ssParts go [(l.getD i z127).f3, (l.getD i z127).f4] (a.1, wrap64 (a.2.1 + (l.getD i z127).f2.length), a.2.2)).bind (ssLoop go (l.drop (i + 1))) := by
  rw [drop_at z127 h]; rfl
theorem ssParts_at (go : List S127 → Option (Int × Int × Int)) {l : List (List S127)} {i : Nat} (h : i < l.length) (a : Int × Int × Int) : ssParts go (l.drop i) a = (ssPart go (l.getD i []) a).bind (ssParts go (l.drop (i + 1))) := by
  rw [drop_at [] h]; rfl

theorem ssParts_mono {go go' : List S127 → Option (Int × Int × Int)} (h : ∀ p, LeO (go p) (go' p)) : ∀ l a, LeO (ssParts go l a) (ssParts go' l a)
  | [], a => LeO.refl _
  | p :: t, a => LeO.bind (by unfold ssPart; exact LeO.bind (h p) (fun _ => LeO.refl _)) (fun x => ssParts_mono h t x)
theorem ssLoop_mono {go go' : List S127 → Option (Int × Int × Int)} (h : ∀ p, LeO (go p) (go' p)) : ∀ l a, LeO (ssLoop go l a) (ssLoop go' l a)
  | [], a => LeO.refl _
  | x :: t, a => LeO.bind (ssParts_mono h _ _) (fun y => ssLoop_mono h t y)
theorem codemasonref_ShapeSize.mono : ∀ a0 a1 k, LeO (codemasonref_ShapeSize.f k a0 a1) (codemasonref_ShapeSize.f (k + 1) a0 a1) := fun a0 a1 k => by
  induction k generalizing a0 a1 with
  | zero => intro r h; cases h
  | succ k ih =>
    rw [codemasonref_ShapeSize.f, codemasonref_ShapeSize.f]
    exact LeO.ite (LeO.refl _) (LeO.ite (LeO.refl _) (ssLoop_mono (fun p => ih p _) _ _))

set_option maxRecDepth 100000 in
set_option maxHeartbeats 4000000 in
theorem codemasonref_ShapeSize.calls : ∀ (k : Nat) (A0 : Option Addr) (c0 : Nat) (l0 : List S127) (a1 : Int) (r1 r2 r3 : Int) (w : World) (hr0 : Kd.C k127 w A0 l0.length l0) (hc0 : l0.length ≤ c0) (h : codemasonref_ShapeSize.f k l0 a1 = some (r1, r2, r3)),
    Calls Try.prog 112 #[.slice A0 l0.length c0, .int .i64 a1] w fun e w' => e = .returned (.tuple #[.int .i64 r1, .int .i64 r2, .int .i64 r3]) ∧ Below w.heap.size w w' := by
  intro k
  induction k with
  | zero => intro _ _ _ _ _ _ _ _ _ _ h; simp [codemasonref_ShapeSize.f] at h
  | succ k ih =>
    intro A0 c0 l0 a1 r1 r2 r3 w hr0 hc0 h
    have IH := Aside0.mk ih
    clear ih
    have hl := hr0.2.1
    have HR := Aside0.mk hr0
    clear hr0
    rw [codemasonref_ShapeSize.f] at h
    by_cases hz : l0.length = 0
    · rw [if_pos hz, Option.some.injEq, Prod.mk.injEq, Prod.mk.injEq] at h
      obtain ⟨rfl, rfl, rfl⟩ := h
      have hzb : ((l0.length : Int) == 0) = true := by simp [hz]
      clear hz HR
      go_enter Try.func112, Try.ntmps112
      go_wp2
      go_ret3
      exact ⟨rfl, Below.refl _ _⟩
    rw [if_neg hz] at h
    have hzb : ((l0.length : Int) == 0) = false := by simp [hz]
    clear hz
    by_cases hd : (l0.length : Int) > 8 ∨ a1 > 5
    · rw [if_pos hd, Option.some.injEq, Prod.mk.injEq, Prod.mk.injEq] at h
      obtain ⟨rfl, rfl, rfl⟩ := h
      go_enter Try.func112, Try.ntmps112
      go_wp2
      all_goals
        go_ret3
        exact ⟨rfl, Below.refl _ _⟩
    · rw [if_neg hd] at h
      have hd1 : (l0.length : Int) ≤ 8 := by omega
      have hd2 : a1 ≤ 5 := by omega
      have HA := Aside0.mk h
      generalize hgo : (fun p => codemasonref_ShapeSize.f k p (wrap64 (a1 + 1))) = go at HA
      have Hgo := Aside0.mk hgo
      clear hd h hgo
      go_enter Try.func112, Try.ntmps112
      go_wp2_with fail
      go_loopw [7, 8, 9, 36] (fun m s d i wr => ∃ (j : Nat) (q1 q2 q3 : Int), j ≤ l0.length ∧ m = .int .i64 q1 ∧ s = .int .i64 q2 ∧ d = .int .i64 q3 ∧ i = .int .i64 j ∧ Aside0 (ssLoop go (l0.drop j) (q1, q2, q3) = some (r1, r2, r3)) ∧ Aside0 (Below w.heap.size w wr)) (fun _ _ _ i _ => l0.length - (intOf i).toNat)
      case atStart => exact ⟨0, _, _, _, by omega, rfl, rfl, rfl, rfl, HA, ⟨Below.refl _ _⟩⟩
      case round =>
        obtain ⟨j, q1, q2, q3, hj, rfl, rfl, rfl, rfl, HL, HB⟩ := hrel
        by_cases hjt : j < l0.length
        · obtain ⟨ad, A2, c2, A3, c3, A4, c4, e0, h0, h1, h2, h3, h4, lc2, hC2, lc3, hC3, lc4, hC4⟩ := T127_at (Kd.C_below HR.out HB.out) j hjt
          cases e0
          have hL := HL.out
          rw [ssLoop_at _ hjt] at hL
          generalize l0.getD j z127 = x at h0 h1 h2 h3 h4 lc2 hC2 lc3 hC3 lc4 hC4 hL
          have L2 := hC2.2.1
          have L3 := hC3.2.1
          have L4 := hC4.2.1
          have H3 := Aside0.mk hC3
          have H4 := Aside0.mk hC4
          replace HL := Aside0.mk hL
          have Hc3 := Aside0.mk lc3
          have Hc4 := Aside0.mk lc4
          clear hC2 hC3 hC4 hL lc2 lc3 lc4
          go_wp2_with fail
          obtain ⟨wo, ho⟩ : ∃ wo : World, wo = wr := ⟨_, rfl⟩
          subst ho
          go_loopw [7, 8, 9, 51] (fun m s d i w' => ∃ (t : Nat) (q1 q2 q3 : Int), t ≤ 2 ∧ m = .int .i64 q1 ∧ s = .int .i64 q2 ∧ d = .int .i64 q3 ∧ i = .int .i64 t ∧ Aside0 ((ssParts go ([x.f3, x.f4].drop t) (q1, q2, q3)).bind (ssLoop go (l0.drop (j + 1))) = some (r1, r2, r3)) ∧
            Aside0 (Below (wo.heap.size + 2) ((wo.alloc (.cells #[.int .i64 x.f0, .int .i64 x.f1, .slice A2 x.f2.length c2, .slice A3 x.f3.length c3, .slice A4 x.f4.length c4] 127)).alloc (.cells #[.slice A3 x.f3.length c3, .slice A4 x.f4.length c4] 22)) w')) (fun _ _ _ i _ => 2 - (intOf i).toNat)
          case atStart => exact ⟨0, _, _, _, by omega, rfl, rfl, rfl, rfl, HL, ⟨Below.refl _ _⟩⟩
          case round =>
            clear HL h0 h1 h2 h3 h4
            obtain ⟨t, q1, q2, q3, ht, rfl, rfl, rfl, rfl, HS, HB2⟩ := hrel
            have hB := HB2.out
            have hB3 : Below wo.heap.size wo wr := (((Below.refl _ _).alloc (Nat.le_refl _) _).alloc (by simp) _).trans (hB.mono (by omega))
            have HB3 := Aside0.mk hB3
            clear hB3
            by_cases ht2 : t < 2
            · have hrow : Kd.C (Kd.slice 127 k127) wr (some ⟨wo.heap.size + 1, 0, none⟩) 2 [x.f3, x.f4] :=
                two_rows ((hB.cell (p := ⟨wo.heap.size + 1, 0, none⟩) (by simp)).trans (by simp [go_sem])) ((hB.cell (p := ⟨wo.heap.size + 1, 1, none⟩) (by simp)).trans (by simp [go_sem])) Hc3.out Hc4.out (Kd.C_below H3.out HB3.out) (Kd.C_below H4.out HB3.out)
              obtain ⟨ad2, Ap, cp, e2, g0, lp, hCp⟩ := L7_at hrow t ht2
              simp only [Option.some.injEq] at e2
              subst e2
              rw [add_plain] at g0
              have hS := HS.out
              rw [ssParts_at _ (by simpa using ht2), Option.bind_assoc] at hS
              generalize [x.f3, x.f4].getD t [] = p at g0 lp hCp hS
              obtain ⟨⟨b1, b2, b3⟩, hp, hrest⟩ := Option.bind_eq_some_iff.1 hS
              have HP := Aside0.mk hrest
              have hlp := hCp.2.1
              have HCp := Aside0.mk hCp
              have Hlp := Aside0.mk lp
              have hbb : wo.heap.size + 2 ≤ wr.heap.size := by simpa using hB.size
              clear hS HS hrow hrest hCp lp hB
              rw [ssPart] at hp
              obtain ⟨⟨m1, m2, m3⟩, hg, hh⟩ := Option.bind_eq_some_iff.1 hp
              rw [← Hgo.out] at hg
              simp only [Option.some.injEq, Prod.mk.injEq] at hh
              obtain ⟨rfl, rfl, hh3⟩ := hh
              have HG := Aside0.mk hg
              clear hp hg
              by_cases hm : q3 < m3
              · rw [if_pos hm] at hh3
                subst hh3
                go_wp2_with (go_at_call 112; refine (IH.out _ _ _ _ _ _ _ _ HCp.out Hlp.out HG.out).mono ?_; rintro e w2 ⟨rfl, hb2⟩)
                go_roundw
                case rel => exact ⟨t + 1, _, _, _, by omega, rfl, rfl, rfl, by go_num, HP, ⟨HB2.out.trans (hb2.mono hbb)⟩⟩
                case measure => simp [intOf]; omega
              · rw [if_neg hm] at hh3
                subst hh3
                go_wp2_with (go_at_call 112; refine (IH.out _ _ _ _ _ _ _ _ HCp.out Hlp.out HG.out).mono ?_; rintro e w2 ⟨rfl, hb2⟩)
                go_roundw
                case rel => exact ⟨t + 1, _, _, _, by omega, rfl, rfl, rfl, by go_num, HP, ⟨HB2.out.trans (hb2.mono hbb)⟩⟩
                case measure => simp [intOf]; omega
            · have hS := HS.out
              rw [List.drop_of_length_le (by simp; omega)] at hS
              have HS' := Aside0.mk hS
              clear hS
              go_wp2
              go_roundw
              case rel => exact ⟨j + 1, _, _, _, by omega, rfl, rfl, rfl, by go_num, HS', ⟨HB.out.trans (HB3.out.mono HB.out.size)⟩⟩
              case measure => simp [intOf]; omega
        · have hL := HL.out
          rw [List.drop_of_length_le (by omega)] at hL
          simp only [ssLoop, Option.some.injEq, Prod.mk.injEq] at hL
          obtain ⟨rfl, rfl, rfl⟩ := hL
          go_wp2
          go_ret3
          exact ⟨rfl, HB.out⟩
end Go.Proofs.Ytaicamjpcnhjcaa.PA
