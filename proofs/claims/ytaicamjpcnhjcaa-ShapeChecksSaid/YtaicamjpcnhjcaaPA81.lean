/- codemasonref.shapeKinds of the translation: what the machine's call comes to. -/
import Derived.Test.YtaicamjpcnhjcaaPA111
import Derived.Test.YtaicamjpcnhjcaaPu2
namespace Go.Proofs.Ytaicamjpcnhjcaa.PA
open Go.RowKit Go.Proofs.YtaicamjpcnhjcaaW.PrintWords Go.Proofs.YtaicamjpcnhjcaaW.PrintLast Go.Proofs.YtaicamjpcnhjcaaW.PrintMore
set_option linter.unusedVariables false
set_option linter.unusedSimpArgs false
attribute [local go_sem] max2_int min2_int max_two min_two

def kindOwn (v : Int) (x : S127) : Int :=
  if x.f0 ≠ 1 ∧ x.f0 ≠ 2 ∧ x.f0 ≠ 3 then 6 else if x.f0 = 1 then stepsErr v x.f2 else if 0 ≤ x.f1 ∧ x.f1 < v then 0 else 2
def codemasonref_shapeKinds.f : Nat → Int → List S127 → Option Int
  | 0, _, _ => none
  | k + 1, v, l => shapesLoop (kindOwn v) (fun p => codemasonref_shapeKinds.f k v p) l

theorem codemasonref_shapeKinds.mono : ∀ a0 a1 k, LeO (codemasonref_shapeKinds.f k a0 a1) (codemasonref_shapeKinds.f (k + 1) a0 a1) := fun a0 a1 k => by
  induction k generalizing a0 a1 with
  | zero => intro r h; cases h
  | succ k ih =>
    rw [codemasonref_shapeKinds.f, codemasonref_shapeKinds.f]
    exact shapesLoop_mono (fun p => ih _ p) _

set_option maxRecDepth 100000 in
set_option maxHeartbeats 4000000 in
theorem codemasonref_shapeKinds.calls : ∀ (k : Nat) (a0 : Int) (A1 : Option Addr) (c1 : Nat) (l1 : List S127) (r : Int) (w : World) (hr1 : Kd.C k127 w A1 l1.length l1) (hc1 : l1.length ≤ c1) (h : codemasonref_shapeKinds.f k a0 l1 = some r),
    Calls Try.prog 81 #[.int .i64 a0, .slice A1 l1.length c1] w fun e w' => e = .returned (.int .i64 r) ∧ Below w.heap.size w w' := by
  intro k
  induction k with
  | zero => intro _ _ _ _ _ _ _ _ h; simp [codemasonref_shapeKinds.f] at h
  | succ k ih =>
    intro a0 A1 c1 l1 r w hr1 hc1 h
    have IH := Aside0.mk ih
    clear ih
    have hl := hr1.2.1
    have HR := Aside0.mk hr1
    clear hr1
    rw [codemasonref_shapeKinds.f] at h
    have HA := Aside0.mk h
    generalize hgo : (fun p => codemasonref_shapeKinds.f k a0 p) = go at HA
    have Hgo := Aside0.mk hgo
    clear h hgo
    go_enter Try.func81, Try.ntmps81
    go_wp2_with fail
    go_loopw [15] (fun i wr => ∃ j : Nat, j ≤ l1.length ∧ i = .int .i64 j ∧ Aside0 (shapesLoop (kindOwn a0) go (l1.drop j) = some r) ∧ Aside0 (Below w.heap.size w wr)) (fun i _ => l1.length - (intOf i).toNat)
    case atStart => exact ⟨0, by omega, rfl, HA, ⟨Below.refl _ _⟩⟩
    case round =>
      obtain ⟨j, hj, rfl, HL, HB⟩ := hrel
      by_cases hjt : j < l1.length
      · obtain ⟨ad, A2, c2, A3, c3, A4, c4, e0, h0, h1, h2, h3, h4, lc2, hC2, lc3, hC3, lc4, hC4⟩ := T127_at (Kd.C_below HR.out HB.out) j hjt
        cases e0
        have hL := HL.out
        rw [shapesLoop_at _ _ hjt] at hL
        generalize l1.getD j z127 = x at h0 h1 h2 h3 h4 lc2 hC2 lc3 hC3 lc4 hC4 hL
        have L2 := hC2.2.1
        have L3 := hC3.2.1
        have L4 := hC4.2.1
        have H2 := Aside0.mk hC2
        have H3 := Aside0.mk hC3
        have H4 := Aside0.mk hC4
        have Hc2 := Aside0.mk lc2
        have Hc3 := Aside0.mk lc3
        have Hc4 := Aside0.mk lc4
        clear hC2 hC3 hC4 lc2 lc3 lc4
        obtain ⟨wo, ho⟩ : ∃ wo : World, wo = wr := ⟨_, rfl⟩
        subst ho
        by_cases hk : x.f0 = 1
        · have hkb : (x.f0 == 1) = true := by simp [hk]
          have hkc : (x.f0 != 1) = false := by simp [hk]
          have how : kindOwn a0 x = stepsErr a0 x.f2 := by unfold kindOwn; rw [if_neg (by omega), if_pos hk]
          rw [how] at hL
          have HLL := Aside0.mk hL
          clear hk how hL HL
          go_wp2_with fail
          go_loopw [38] (fun i w' => ∃ s : Nat, s ≤ x.f2.length ∧ i = .int .i64 s ∧ Aside0 (stepsErr a0 (x.f2.drop s) = stepsErr a0 x.f2) ∧ Aside0 (Below (wo.heap.size + 1) (wo.alloc (.cells #[.int .i64 x.f0, .int .i64 x.f1, .slice A2 x.f2.length c2, .slice A3 x.f3.length c3, .slice A4 x.f4.length c4] 127)) w')) (fun i _ => x.f2.length - (intOf i).toNat)
          case atStart => exact ⟨0, by omega, rfl, ⟨rfl⟩, ⟨Below.refl _ _⟩⟩
          case round =>
            clear h0 h1 h2 h3 h4
            obtain ⟨s, hs, rfl, HS0, Hb2⟩ := hrel
            have Hbo := Aside0.mk (below_box Hb2.out)
            by_cases hst : s < x.f2.length
            · obtain ⟨ad2, e2, g0, g1, g2, g3, g4⟩ := T111_at (Kd.C_below H2.out Hbo.out) s hst
              cases e2
              have hS := HS0.out
              rw [stepsErr_at _ hst] at hS
              generalize x.f2.getD s z111 = st at g0 g1 g2 g3 g4 hS
              obtain ⟨kk, hkk⟩ := (stepCheck_ev a0 st.f0 st.f1 st.f2 st.f3 st.f4).rounds
              have HK := Aside0.mk hkk
              clear hkk
              by_cases he : stepE a0 st.f0 st.f1 st.f2 st.f3 st.f4 = 0
              · rw [if_neg (by simpa using he)] at hS
                have heb : (stepE a0 st.f0 st.f1 st.f2 st.f3 st.f4 != 0) = false := by simp [he]
                have HS1 := Aside0.mk hS
                clear hS he HS0
                go_wp2_with (go_at_call 71; refine (codemasonref_StepCheck.calls kk _ _ _ _ _ _ _ _ _ HK.out).mono ?_; rintro e w2 ⟨rfl, hb2⟩)
                go_roundw
                case rel => exact ⟨s + 1, by omega, by go_num, HS1, ⟨below_alloc_then Hb2.out (box_size Hb2.out) hb2 (by have := box_size Hb2.out; simp; omega)⟩⟩
                case measure => simp [intOf]; omega
              · rw [if_pos he] at hS
                have hr : stepE a0 st.f0 st.f1 st.f2 st.f3 st.f4 = r := by
                  have h := HLL.out
                  rw [← hS, if_neg he] at h
                  exact Option.some.inj h
                have heb : (stepE a0 st.f0 st.f1 st.f2 st.f3 st.f4 != 0) = true := by simp [he]
                have HR2 := Aside0.mk hr
                clear hS he hr HS0
                go_wp2_with (go_at_call 71; refine (codemasonref_StepCheck.calls kk _ _ _ _ _ _ _ _ _ HK.out).mono ?_; rintro e w2 ⟨rfl, hb2⟩)
                go_ret
                exact ⟨ret_int HR2.out, HB.out.trans (below_alloc_then Hbo.out Hbo.out.size hb2 (by have := box_size Hb2.out; simp; omega) |>.mono HB.out.size)⟩
            · have hS := HS0.out
              rw [List.drop_of_length_le (by omega)] at hS
              have HL : Aside0 (((shapesParts go [x.f3, x.f4]).bind fun e => if e = 0 then shapesLoop (kindOwn a0) go (l1.drop (j + 1)) else some e) = some r) := ⟨by have h := HLL.out; rw [if_pos (show stepsErr a0 x.f2 = 0 from hS.symm)] at h; exact h⟩
              have h0 := box_cells Hb2.out 0 rfl
              have h1 := box_cells Hb2.out 1 rfl
              have h2 := box_cells Hb2.out 2 rfl
              have h3 := box_cells Hb2.out 3 rfl
              have h4 := box_cells Hb2.out 4 rfl
              obtain ⟨w2, ho2⟩ : ∃ w2 : World, w2 = wr := ⟨_, rfl⟩
              subst ho2
              have HW : Aside0 (Below w.heap.size w w2) := ⟨HB.out.trans (Hbo.out.mono HB.out.size)⟩
              have HW3 : Aside0 (k127.C w2 A3 x.f3.length x.f3) := ⟨Kd.C_below H3.out Hbo.out⟩
              have HW4 : Aside0 (k127.C w2 A4 x.f4.length x.f4) := ⟨Kd.C_below H4.out Hbo.out⟩
              clear hS HLL HS0
              go_wp2_with fail
              go_loopw [62] (fun i w' => ∃ t : Nat, t ≤ 2 ∧ i = .int .i64 t ∧ Aside0 ((shapesParts go ([x.f3, x.f4].drop t)).bind (fun e => if e = 0 then shapesLoop (kindOwn a0) go (l1.drop (j + 1)) else some e) = some r) ∧ Aside0 (Below (w2.heap.size + 1) ((w2).alloc (.cells #[.slice A3 x.f3.length c3, .slice A4 x.f4.length c4] 22)) w')) (fun i _ => 2 - (intOf i).toNat)
              case atStart => exact ⟨0, by omega, rfl, HL, ⟨Below.refl _ _⟩⟩
              case round =>
                clear HL h0 h1 h2 h3 h4
                obtain ⟨t, ht, rfl, HS, HB2⟩ := hrel
                have hB := HB2.out
                have hB3 : Below w.heap.size w wr := (HW.out.alloc HW.out.size _).trans (hB.mono (by have := HW.out.size; (try simp at this); omega))
                have hB4 : Below (w2).heap.size (w2) wr := ((Below.refl _ _).alloc (Nat.le_refl _) _).trans (hB.mono (by simp))
                have HB3 := Aside0.mk hB3
                by_cases ht2 : t < 2
                · have hrow : Kd.C (Kd.slice 127 k127) wr (some ⟨w2.heap.size, 0, none⟩) 2 [x.f3, x.f4] :=
                    two_rows ((hB.cell (p := ⟨w2.heap.size, 0, none⟩) (by simp)).trans (by simp [go_sem])) ((hB.cell (p := ⟨w2.heap.size, 1, none⟩) (by simp)).trans (by simp [go_sem])) Hc3.out Hc4.out (Kd.C_below HW3.out hB4) (Kd.C_below HW4.out hB4)
                  obtain ⟨ad2, Ap, cp, e2, g0, lp, hCp⟩ := L7_at hrow t ht2
                  simp only [Option.some.injEq] at e2
                  subst e2
                  rw [add_plain] at g0
                  have hS := HS.out
                  rw [shapesParts_at _ (by simpa using ht2), Option.bind_assoc] at hS
                  generalize [x.f3, x.f4].getD t [] = p at g0 lp hCp hS
                  obtain ⟨e, hp, hrest⟩ := Option.bind_eq_some_iff.1 hS
                  rw [← Hgo.out] at hp
                  have HP := Aside0.mk hp
                  have hlp := hCp.2.1
                  have HCp := Aside0.mk hCp
                  have Hlp := Aside0.mk lp
                  have hbb : w2.heap.size + 1 ≤ wr.heap.size := by have := hB.size; simp at this; omega
                  by_cases he : e = 0
                  · subst he
                    simp only [if_true] at hrest
                    have HQ := Aside0.mk hrest
                    clear hS HS hrow hrest hCp lp hB hp hB3 hB4
                    go_wp2_with (go_at_call 81; refine (IH.out _ _ _ _ _ _ HCp.out Hlp.out HP.out).mono ?_; rintro e w3 ⟨rfl, hb3⟩)
                    go_roundw
                    case rel => exact ⟨t + 1, by omega, by go_num, HQ, ⟨HB2.out.trans (hb3.mono hbb)⟩⟩
                    case measure => simp [intOf]; omega
                  · simp only [if_neg he, Option.bind_some, Option.some.injEq] at hrest
                    subst hrest
                    have heb : (e != 0) = true := by simp [he]
                    clear hS HS hrow hCp lp hB hp he hB3 hB4
                    go_wp2_with (go_at_call 81; refine (IH.out _ _ _ _ _ _ HCp.out Hlp.out HP.out).mono ?_; rintro e w3 ⟨rfl, hb3⟩)
                    go_ret
                    exact ⟨rfl, HB3.out.trans (hb3.mono HB3.out.size)⟩
                · have hS := HS.out
                  rw [List.drop_of_length_le (by simp; omega)] at hS
                  simp only [shapesParts, Option.bind_some, if_true] at hS
                  have HS' := Aside0.mk hS
                  clear hS hB hB3 hB4
                  go_wp2
                  go_roundw
                  case rel => exact ⟨j + 1, by omega, by go_num, HS', HB3⟩
                  case measure => simp [intOf]; omega
        · have hkb : (x.f0 == 1) = false := by simp [hk]
          have hkc : (x.f0 != 1) = true := by simp [hk]
          by_cases hk2 : x.f0 = 2 ∨ x.f0 = 3
          · have how : kindOwn a0 x = if 0 ≤ x.f1 ∧ x.f1 < a0 then 0 else 2 := by unfold kindOwn; rw [if_neg (by omega), if_neg hk]
            rw [how] at hL
            obtain ⟨kk, hkk⟩ := (inside1_ev a0 x.f1).rounds
            have HK := Aside0.mk hkk
            have hb2b : (x.f0 != 2) = true ∧ (x.f0 != 3) = false ∨ (x.f0 != 2) = false := by
              rcases hk2 with h | h
              · exact .inr (by simp [h])
              · exact .inl ⟨by simp [h], by simp [h]⟩
            have hbl : Below wo.heap.size wo ((wo.alloc (.cells #[.int .i64 x.f0, .int .i64 x.f1, .slice A2 x.f2.length c2, .slice A3 x.f3.length c3, .slice A4 x.f4.length c4] 127)).alloc (.cells #[.int .i64 x.f1] 3)) := ((Below.refl _ _).alloc (Nat.le_refl _) _).alloc (by simp) _
            have H3I : Aside0 (Kd.C (Kd.int .i64) ((wo.alloc (.cells #[.int .i64 x.f0, .int .i64 x.f1, .slice A2 x.f2.length c2, .slice A3 x.f3.length c3, .slice A4 x.f4.length c4] 127)).alloc (.cells #[.int .i64 x.f1] 3)) (some ⟨wo.heap.size + 1, 0, none⟩) 1 [x.f1]) := ⟨one_int (by simp [go_sem])⟩
            have Hbl := Aside0.mk hbl
            by_cases hi : 0 ≤ x.f1 ∧ x.f1 < a0
            · rw [if_pos hi, if_pos rfl] at hL
              rw [decide_eq_true hi] at HK
              replace HL := Aside0.mk hL
              clear hk hk2 how hL hkk hbl hi
              have go1 : Calls Try.prog 52 #[.int .i64 a0, .slice (some ⟨wo.heap.size + 1, 0, none⟩) 1 1] ((wo.alloc (.cells #[.int .i64 x.f0, .int .i64 x.f1, .slice A2 x.f2.length c2, .slice A3 x.f3.length c3, .slice A4 x.f4.length c4] 127)).alloc (.cells #[.int .i64 x.f1] 3)) (fun e w2 => e = .returned (.bool true) ∧ Below (wo.heap.size + 2) ((wo.alloc (.cells #[.int .i64 x.f0, .int .i64 x.f1, .slice A2 x.f2.length c2, .slice A3 x.f3.length c3, .slice A4 x.f4.length c4] 127)).alloc (.cells #[.int .i64 x.f1] 3)) w2) :=
                (codemasonref_Inside.calls kk a0 _ 1 [x.f1] true _ H3I.out (Nat.le_refl _) HK.out).mono (fun e w2 ⟨h1, h2⟩ => ⟨h1, h2.below.mono (by simp)⟩)
              have Go1 := Aside0.mk go1
              clear go1
              rcases hb2b with ⟨p2, p3⟩ | p2
              all_goals
                go_wp2_with fail
                refine Go1.out.mono ?_
                rintro e w2 ⟨rfl, hb2⟩
                have hb3 : Below (wo.heap.size + 1) (wo.alloc (.cells #[.int .i64 x.f0, .int .i64 x.f1, .slice A2 x.f2.length c2, .slice A3 x.f3.length c3, .slice A4 x.f4.length c4] 127)) w2 := ((Below.refl _ _).alloc (by simp) _).trans (hb2.mono (by omega))
                have g3 := box_cells hb3 3 rfl
                have g4 := box_cells hb3 4 rfl
                have hb4 := below_box hb3
                have HW : Aside0 (Below w.heap.size w w2) := ⟨HB.out.trans (hb4.mono HB.out.size)⟩
                have HW3 : Aside0 (k127.C w2 A3 x.f3.length x.f3) := ⟨Kd.C_below H3.out hb4⟩
                have HW4 : Aside0 (k127.C w2 A4 x.f4.length x.f4) := ⟨Kd.C_below H4.out hb4⟩
                clear hb2 hb3 hb4
                go_wp2_with fail
                go_loopw [62] (fun i w' => ∃ t : Nat, t ≤ 2 ∧ i = .int .i64 t ∧ Aside0 ((shapesParts go ([x.f3, x.f4].drop t)).bind (fun e => if e = 0 then shapesLoop (kindOwn a0) go (l1.drop (j + 1)) else some e) = some r) ∧ Aside0 (Below (w2.heap.size + 1) ((w2).alloc (.cells #[.slice A3 x.f3.length c3, .slice A4 x.f4.length c4] 22)) w')) (fun i _ => 2 - (intOf i).toNat)
                case atStart => exact ⟨0, by omega, rfl, HL, ⟨Below.refl _ _⟩⟩
                case round =>
                  clear HL h0 h1 h2 h3 h4
                  obtain ⟨t, ht, rfl, HS, HB2⟩ := hrel
                  have hB := HB2.out
                  have hB3 : Below w.heap.size w wr := (HW.out.alloc HW.out.size _).trans (hB.mono (by have := HW.out.size; (try simp at this); omega))
                  have hB4 : Below (w2).heap.size (w2) wr := ((Below.refl _ _).alloc (Nat.le_refl _) _).trans (hB.mono (by simp))
                  have HB3 := Aside0.mk hB3
                  by_cases ht2 : t < 2
                  · have hrow : Kd.C (Kd.slice 127 k127) wr (some ⟨w2.heap.size, 0, none⟩) 2 [x.f3, x.f4] :=
                      two_rows ((hB.cell (p := ⟨w2.heap.size, 0, none⟩) (by simp)).trans (by simp [go_sem])) ((hB.cell (p := ⟨w2.heap.size, 1, none⟩) (by simp)).trans (by simp [go_sem])) Hc3.out Hc4.out (Kd.C_below HW3.out hB4) (Kd.C_below HW4.out hB4)
                    obtain ⟨ad2, Ap, cp, e2, g0, lp, hCp⟩ := L7_at hrow t ht2
                    simp only [Option.some.injEq] at e2
                    subst e2
                    rw [add_plain] at g0
                    have hS := HS.out
                    rw [shapesParts_at _ (by simpa using ht2), Option.bind_assoc] at hS
                    generalize [x.f3, x.f4].getD t [] = p at g0 lp hCp hS
                    obtain ⟨e, hp, hrest⟩ := Option.bind_eq_some_iff.1 hS
                    rw [← Hgo.out] at hp
                    have HP := Aside0.mk hp
                    have hlp := hCp.2.1
                    have HCp := Aside0.mk hCp
                    have Hlp := Aside0.mk lp
                    have hbb : w2.heap.size + 1 ≤ wr.heap.size := by have := hB.size; simp at this; omega
                    by_cases he : e = 0
                    · subst he
                      simp only [if_true] at hrest
                      have HQ := Aside0.mk hrest
                      clear hS HS hrow hrest hCp lp hB hp hB3 hB4
                      go_wp2_with (go_at_call 81; refine (IH.out _ _ _ _ _ _ HCp.out Hlp.out HP.out).mono ?_; rintro e w3 ⟨rfl, hb3⟩)
                      go_roundw
                      case rel => exact ⟨t + 1, by omega, by go_num, HQ, ⟨HB2.out.trans (hb3.mono hbb)⟩⟩
                      case measure => simp [intOf]; omega
                    · simp only [if_neg he, Option.bind_some, Option.some.injEq] at hrest
                      subst hrest
                      have heb : (e != 0) = true := by simp [he]
                      clear hS HS hrow hCp lp hB hp he hB3 hB4
                      go_wp2_with (go_at_call 81; refine (IH.out _ _ _ _ _ _ HCp.out Hlp.out HP.out).mono ?_; rintro e w3 ⟨rfl, hb3⟩)
                      go_ret
                      exact ⟨rfl, HB3.out.trans (hb3.mono HB3.out.size)⟩
                  · have hS := HS.out
                    rw [List.drop_of_length_le (by simp; omega)] at hS
                    simp only [shapesParts, Option.bind_some, if_true] at hS
                    have HS' := Aside0.mk hS
                    clear hS hB hB3 hB4
                    go_wp2
                    go_roundw
                    case rel => exact ⟨j + 1, by omega, by go_num, HS', HB3⟩
                    case measure => simp [intOf]; omega
            · rw [if_neg hi, if_neg (by decide), Option.some.injEq] at hL
              rw [decide_eq_false hi] at HK
              subst hL
              clear hk hk2 how hkk hbl hi HL
              rcases hb2b with ⟨p2, p3⟩ | p2
              all_goals
                go_wp2_with fail
                refine (codemasonref_Inside.calls kk a0 _ 1 [x.f1] false _ H3I.out (Nat.le_refl _) HK.out).mono ?_
                rintro e w2 ⟨rfl, hd2⟩
                have Hb2 := Aside0.mk hd2.below
                clear hd2
                go_wp2_with fail
                go_ret
                exact ⟨rfl, HB.out.trans ((Hbl.out.trans (Hb2.out.mono (by simp; omega))).mono HB.out.size)⟩
          · have how : kindOwn a0 x = 6 := by unfold kindOwn; rw [if_pos (by omega)]
            rw [how, if_neg (by decide), Option.some.injEq] at hL
            subst hL
            have p2 : (x.f0 != 2) = true := by simp; omega
            have p3 : (x.f0 != 3) = true := by simp; omega
            clear hk hk2 how HL
            go_wp2
            go_ret
            exact ⟨rfl, HB.out.alloc HB.out.size _⟩
      · have hL := HL.out
        rw [List.drop_of_length_le (by omega)] at hL
        simp only [shapesLoop, Option.some.injEq] at hL
        subst hL
        go_wp2
        go_ret
        exact ⟨rfl, HB.out⟩
end Go.Proofs.Ytaicamjpcnhjcaa.PA
