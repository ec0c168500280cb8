/- shape.shapes of the translation: what the machine's call comes to. -/
import Derived.Test.YtaicamjpcnhjcaaPA76
namespace Go.Proofs.Ytaicamjpcnhjcaa.PA
open Go.RowKit Go.Proofs.YtaicamjpcnhjcaaW.PrintWords Go.Proofs.YtaicamjpcnhjcaaW.PrintLast Go.Proofs.YtaicamjpcnhjcaaW.PrintMore
set_option linter.unusedVariables false
set_option linter.unusedSimpArgs false
attribute [local go_sem] max2_int min2_int max_two min_two

/-- What is wrong with parts, one by one. -/
def shapesParts (go : List S127 → Option Int) : List (List S127) → Option Int
  | [] => some 0
  | p :: t => (go p).bind fun e => if e = 0 then shapesParts go t else some e
/-- What is wrong with shapes, one by one: with each itself, with its parts. -/
def shapesLoop (own : S127 → Int) (go : List S127 → Option Int) : List S127 → Option Int
  | [] => some 0
  | x :: t => if own x = 0 then (shapesParts go [x.f3, x.f4]).bind fun e => if e = 0 then shapesLoop own go t else some e else some (own x)
def shapeOwn (v : Int) (x : S127) : Int :=
  if x.f0 < 1 ∨ x.f0 > 3 then 6 else if x.f0 = 1 then blockCheck v [⟨x.f2, -1, -1, 0⟩] else if x.f1 < 0 ∨ x.f1 ≥ v then 2 else 0
def shape_shapes.f : Nat → Int → List S127 → Option Int
  | 0, _, _ => none
  | k + 1, v, l => shapesLoop (shapeOwn v) (fun p => shape_shapes.f k v p) l
theorem shapesLoop_at (own : S127 → Int) (go : List S127 → Option Int) {l : List S127} {i : Nat} (h : i < l.length) : shapesLoop own go (l.drop i) = if own (l.getD i z127) = 0 then (shapesParts go [(l.getD i z127).f3, (l.getD i z127).f4]).bind fun e => if e = 0 then shapesLoop own go (l.drop (i + 1)) else some e else some (own (l.getD i z127)) := by
  rw [drop_at z127 h]; rfl
theorem shapesParts_at (go : List S127 → Option Int) {l : List (List S127)} {i : Nat} (h : i < l.length) : shapesParts go (l.drop i) = (go (l.getD i [])).bind fun e => if e = 0 then shapesParts go (l.drop (i + 1)) else some e := by
  rw [drop_at [] h]; rfl

theorem shapesParts_mono {go go' : List S127 → Option Int} (h : ∀ p, LeO (go p) (go' p)) : ∀ l, LeO (shapesParts go l) (shapesParts go' l)
  | [] => LeO.refl _
  | p :: t => LeO.bind (h p) (fun x => LeO.ite (shapesParts_mono h t) (LeO.refl _))
theorem shapesLoop_mono {own : S127 → Int} {go go' : List S127 → Option Int} (h : ∀ p, LeO (go p) (go' p)) : ∀ l, LeO (shapesLoop own go l) (shapesLoop own go' l)
  | [] => LeO.refl _
  | x :: t => LeO.ite (LeO.bind (shapesParts_mono h _) (fun y => LeO.ite (shapesLoop_mono h t) (LeO.refl _))) (LeO.refl _)
theorem shape_shapes.mono : ∀ a0 a1 k, LeO (shape_shapes.f k a0 a1) (shape_shapes.f (k + 1) a0 a1) := fun a0 a1 k => by
  induction k generalizing a0 a1 with
  | zero => intro r h; cases h
  | succ k ih =>
    rw [shape_shapes.f, shape_shapes.f]
    exact shapesLoop_mono (fun p => ih _ p) _

set_option maxRecDepth 100000 in
set_option maxHeartbeats 4000000 in
theorem shape_shapes.calls : ∀ (k : Nat) (a0 : Int) (A1 : Option Addr) (c1 : Nat) (l1 : List S127) (r : Int) (w : World) (hr1 : Kd.C k127 w A1 l1.length l1) (hc1 : l1.length ≤ c1) (h : shape_shapes.f k a0 l1 = some r),
    Calls Try.prog 111 #[.int .i64 a0, .slice A1 l1.length c1] w fun e w' => e = .returned (.int .i64 r) ∧ Below w.heap.size w w' := by
  intro k
  induction k with
  | zero => intro _ _ _ _ _ _ _ _ h; simp [shape_shapes.f] at h
  | succ k ih =>
    intro a0 A1 c1 l1 r w hr1 hc1 h
    have IH := Aside0.mk ih
    clear ih
    have hl := hr1.2.1
    have HR := Aside0.mk hr1
    clear hr1
    rw [shape_shapes.f] at h
    have HA := Aside0.mk h
    generalize hgo : (fun p => shape_shapes.f k a0 p) = go at HA
    have Hgo := Aside0.mk hgo
    clear h hgo
    go_enter Try.func111, Try.ntmps111
    go_wp2_with fail
    go_loopw [13] (fun i wr => ∃ j : Nat, j ≤ l1.length ∧ i = .int .i64 j ∧ Aside0 (shapesLoop (shapeOwn a0) go (l1.drop j) = some r) ∧ Aside0 (Below w.heap.size w wr)) (fun i _ => l1.length - (intOf i).toNat)
    case atStart => exact ⟨0, by omega, rfl, HA, ⟨Below.refl _ _⟩⟩
    case round =>
      obtain ⟨j, hj, rfl, HL, HB⟩ := hrel
      by_cases hjt : j < l1.length
      · obtain ⟨ad, A2, c2, A3, c3, A4, c4, e0, h0, h1, h2, h3, h4, lc2, hC2, lc3, hC3, lc4, hC4⟩ := T127_at (Kd.C_below HR.out HB.out) j hjt
        cases e0
        have hL := HL.out
        rw [shapesLoop_at _ _ hjt] at hL
        generalize l1.getD j z127 = x at h0 h1 h2 h3 h4 lc2 hC2 lc3 hC3 lc4 hC4 hL
        have L2 := hC2.2.1
        have L3 := hC3.2.1
        have L4 := hC4.2.1
        have H2 := Aside0.mk hC2
        have H3 := Aside0.mk hC3
        have H4 := Aside0.mk hC4
        have Hc2 := Aside0.mk lc2
        have Hc3 := Aside0.mk lc3
        have Hc4 := Aside0.mk lc4
        clear hC2 hC3 hC4 lc2 lc3 lc4
        by_cases ho : shapeOwn a0 x = 0
        · rw [if_pos ho] at hL
          replace HL := Aside0.mk hL
          have Ho := Aside0.mk ho
          clear ho hL
          by_cases hk : x.f0 = 1
          · have hkb : (x.f0 == 1) = true := by simp [hk]
            have hbc : blockCheck a0 [⟨x.f2, -1, -1, 0⟩] = 0 := by have h := Ho.out; unfold shapeOwn at h; rwa [if_neg (by omega), if_pos hk] at h
            have hk1 : 1 ≤ x.f0 := by omega
            have hk3 : x.f0 ≤ 3 := by omega
            have Hbc : Aside0 (block_Check.f a0 [⟨x.f2, -1, -1, 0⟩] = some 0) := ⟨by rw [block_Check.f, hbc]⟩
            clear hk hbc
            obtain ⟨wo, ho⟩ : ∃ wo : World, wo = wr := ⟨_, rfl⟩
            subst ho
            have hbl : Below wo.heap.size wo ((wo.alloc (.cells #[.int .i64 x.f0, .int .i64 x.f1, .slice A2 x.f2.length c2, .slice A3 x.f3.length c3, .slice A4 x.f4.length c4] 127)).alloc (.cells #[.slice A2 x.f2.length c2, .int .i64 (-1), .int .i64 (-1), .int .i64 0] 79)) := ((Below.refl _ _).alloc (Nat.le_refl _) _).alloc (by simp) _
            have H79 : Aside0 (Kd.C k79 ((wo.alloc (.cells #[.int .i64 x.f0, .int .i64 x.f1, .slice A2 x.f2.length c2, .slice A3 x.f3.length c3, .slice A4 x.f4.length c4] 127)).alloc (.cells #[.slice A2 x.f2.length c2, .int .i64 (-1), .int .i64 (-1), .int .i64 0] 79)) (some ⟨wo.heap.size + 1, 0, none⟩) 1 [⟨x.f2, -1, -1, 0⟩]) := ⟨one_block (b := ⟨x.f2, -1, -1, 0⟩) (by simp [go_sem]) (by simp [go_sem]) (by simp [go_sem]) (by simp [go_sem]) Hc2.out (Kd.C_below H2.out hbl)⟩
            clear hbl
            go_wp2_with fail
            refine (block_Check.calls a0 _ 1 [⟨x.f2, -1, -1, 0⟩] 0 _ H79.out (Nat.le_refl _) Hbc.out).mono ?_
            rintro e w2 ⟨rfl, hb2⟩
            have hb3 : Below (wo.heap.size + 1) (wo.alloc (.cells #[.int .i64 x.f0, .int .i64 x.f1, .slice A2 x.f2.length c2, .slice A3 x.f3.length c3, .slice A4 x.f4.length c4] 127)) w2 := ((Below.refl _ _).alloc (by simp) _).trans (hb2.mono (by simp))
            have g3 := box_cells hb3 3 rfl
            have g4 := box_cells hb3 4 rfl
            have hb4 := below_box hb3
            have HW : Aside0 (Below w.heap.size w w2) := ⟨HB.out.trans (hb4.mono HB.out.size)⟩
            have HW3 : Aside0 (k127.C w2 A3 x.f3.length x.f3) := ⟨Kd.C_below H3.out hb4⟩
            have HW4 : Aside0 (k127.C w2 A4 x.f4.length x.f4) := ⟨Kd.C_below H4.out hb4⟩
            clear hb2 hb3 hb4
            go_wp2_with fail
            go_loopw [55] (fun i w' => ∃ t : Nat, t ≤ 2 ∧ i = .int .i64 t ∧ Aside0 ((shapesParts go ([x.f3, x.f4].drop t)).bind (fun e => if e = 0 then shapesLoop (shapeOwn a0) go (l1.drop (j + 1)) else some e) = some r) ∧ Aside0 (Below (w2.heap.size + 1) ((w2).alloc (.cells #[.slice A3 x.f3.length c3, .slice A4 x.f4.length c4] 22)) w')) (fun i _ => 2 - (intOf i).toNat)
            case atStart => exact ⟨0, by omega, rfl, HL, ⟨Below.refl _ _⟩⟩
            case round =>
              clear HL h0 h1 h2 h3 h4
              obtain ⟨t, ht, rfl, HS, HB2⟩ := hrel
              have hB := HB2.out
              have hB3 : Below w.heap.size w wr := (HW.out.alloc HW.out.size _).trans (hB.mono (by have := HW.out.size; (try simp at this); omega))
              have hB4 : Below (w2).heap.size (w2) wr := ((Below.refl _ _).alloc (Nat.le_refl _) _).trans (hB.mono (by simp))
              have HB3 := Aside0.mk hB3
              by_cases ht2 : t < 2
              · have hrow : Kd.C (Kd.slice 127 k127) wr (some ⟨w2.heap.size, 0, none⟩) 2 [x.f3, x.f4] :=
                  two_rows ((hB.cell (p := ⟨w2.heap.size, 0, none⟩) (by simp)).trans (by simp [go_sem])) ((hB.cell (p := ⟨w2.heap.size, 1, none⟩) (by simp)).trans (by simp [go_sem])) Hc3.out Hc4.out (Kd.C_below HW3.out hB4) (Kd.C_below HW4.out hB4)
                obtain ⟨ad2, Ap, cp, e2, g0, lp, hCp⟩ := L7_at hrow t ht2
                simp only [Option.some.injEq] at e2
                subst e2
                rw [add_plain] at g0
                have hS := HS.out
                rw [shapesParts_at _ (by simpa using ht2), Option.bind_assoc] at hS
                generalize [x.f3, x.f4].getD t [] = p at g0 lp hCp hS
                obtain ⟨e, hp, hrest⟩ := Option.bind_eq_some_iff.1 hS
                rw [← Hgo.out] at hp
                have HP := Aside0.mk hp
                have hlp := hCp.2.1
                have HCp := Aside0.mk hCp
                have Hlp := Aside0.mk lp
                have hbb : w2.heap.size + 1 ≤ wr.heap.size := by have := hB.size; simp at this; omega
                by_cases he : e = 0
                · subst he
                  simp only [if_true] at hrest
                  have HQ := Aside0.mk hrest
                  clear hS HS hrow hrest hCp lp hB hp hB3 hB4
                  go_wp2_with (go_at_call 111; refine (IH.out _ _ _ _ _ _ HCp.out Hlp.out HP.out).mono ?_; rintro e w3 ⟨rfl, hb3⟩)
                  go_roundw
                  case rel => exact ⟨t + 1, by omega, by go_num, HQ, ⟨HB2.out.trans (hb3.mono hbb)⟩⟩
                  case measure => simp [intOf]; omega
                · simp only [if_neg he, Option.bind_some, Option.some.injEq] at hrest
                  subst hrest
                  have heb : (e != 0) = true := by simp [he]
                  clear hS HS hrow hCp lp hB hp he hB3 hB4
                  go_wp2_with (go_at_call 111; refine (IH.out _ _ _ _ _ _ HCp.out Hlp.out HP.out).mono ?_; rintro e w3 ⟨rfl, hb3⟩)
                  go_ret
                  exact ⟨rfl, HB3.out.trans (hb3.mono HB3.out.size)⟩
              · have hS := HS.out
                rw [List.drop_of_length_le (by simp; omega)] at hS
                simp only [shapesParts, Option.bind_some, if_true] at hS
                have HS' := Aside0.mk hS
                clear hS hB hB3 hB4
                go_wp2
                go_roundw
                case rel => exact ⟨j + 1, by omega, by go_num, HS', HB3⟩
                case measure => simp [intOf]; omega

          · have hkb : (x.f0 == 1) = false := by simp [hk]
            have hq : 1 ≤ x.f0 ∧ x.f0 ≤ 3 ∧ 0 ≤ x.f1 ∧ x.f1 < a0 := by have h := Ho.out; unfold shapeOwn at h; grind
            obtain ⟨k1, k3, t0, t1⟩ := hq
            clear hk
            obtain ⟨wo, ho⟩ : ∃ wo : World, wo = wr := ⟨_, rfl⟩
            subst ho
            have hb4 : Below wo.heap.size wo (wo.alloc (.cells #[.int .i64 x.f0, .int .i64 x.f1, .slice A2 x.f2.length c2, .slice A3 x.f3.length c3, .slice A4 x.f4.length c4] 127)) := (Below.refl _ _).alloc (Nat.le_refl _) _
            have HW : Aside0 (Below w.heap.size w (wo.alloc (.cells #[.int .i64 x.f0, .int .i64 x.f1, .slice A2 x.f2.length c2, .slice A3 x.f3.length c3, .slice A4 x.f4.length c4] 127))) := ⟨HB.out.alloc HB.out.size _⟩
            have HW3 : Aside0 (k127.C (wo.alloc (.cells #[.int .i64 x.f0, .int .i64 x.f1, .slice A2 x.f2.length c2, .slice A3 x.f3.length c3, .slice A4 x.f4.length c4] 127)) A3 x.f3.length x.f3) := ⟨Kd.C_below H3.out hb4⟩
            have HW4 : Aside0 (k127.C (wo.alloc (.cells #[.int .i64 x.f0, .int .i64 x.f1, .slice A2 x.f2.length c2, .slice A3 x.f3.length c3, .slice A4 x.f4.length c4] 127)) A4 x.f4.length x.f4) := ⟨Kd.C_below H4.out hb4⟩
            clear hb4
            go_wp2_with fail
            go_loopw [55] (fun i w' => ∃ t : Nat, t ≤ 2 ∧ i = .int .i64 t ∧ Aside0 ((shapesParts go ([x.f3, x.f4].drop t)).bind (fun e => if e = 0 then shapesLoop (shapeOwn a0) go (l1.drop (j + 1)) else some e) = some r) ∧ Aside0 (Below (wo.heap.size + 1 + 1) ((wo.alloc (.cells #[.int .i64 x.f0, .int .i64 x.f1, .slice A2 x.f2.length c2, .slice A3 x.f3.length c3, .slice A4 x.f4.length c4] 127)).alloc (.cells #[.slice A3 x.f3.length c3, .slice A4 x.f4.length c4] 22)) w')) (fun i _ => 2 - (intOf i).toNat)
            case atStart => exact ⟨0, by omega, rfl, HL, ⟨Below.refl _ _⟩⟩
            case round =>
              clear HL h0 h1 h2 h3 h4
              obtain ⟨t, ht, rfl, HS, HB2⟩ := hrel
              have hB := HB2.out
              have hB3 : Below w.heap.size w wr := (HW.out.alloc HW.out.size _).trans (hB.mono (by have := HW.out.size; (try simp at this); omega))
              have hB4 : Below (wo.alloc (.cells #[.int .i64 x.f0, .int .i64 x.f1, .slice A2 x.f2.length c2, .slice A3 x.f3.length c3, .slice A4 x.f4.length c4] 127)).heap.size (wo.alloc (.cells #[.int .i64 x.f0, .int .i64 x.f1, .slice A2 x.f2.length c2, .slice A3 x.f3.length c3, .slice A4 x.f4.length c4] 127)) wr := ((Below.refl _ _).alloc (Nat.le_refl _) _).trans (hB.mono (by simp))
              have HB3 := Aside0.mk hB3
              by_cases ht2 : t < 2
              · have hrow : Kd.C (Kd.slice 127 k127) wr (some ⟨wo.heap.size + 1, 0, none⟩) 2 [x.f3, x.f4] :=
                  two_rows ((hB.cell (p := ⟨wo.heap.size + 1, 0, none⟩) (by simp)).trans (by simp [go_sem])) ((hB.cell (p := ⟨wo.heap.size + 1, 1, none⟩) (by simp)).trans (by simp [go_sem])) Hc3.out Hc4.out (Kd.C_below HW3.out hB4) (Kd.C_below HW4.out hB4)
                obtain ⟨ad2, Ap, cp, e2, g0, lp, hCp⟩ := L7_at hrow t ht2
                simp only [Option.some.injEq] at e2
                subst e2
                rw [add_plain] at g0
                have hS := HS.out
                rw [shapesParts_at _ (by simpa using ht2), Option.bind_assoc] at hS
                generalize [x.f3, x.f4].getD t [] = p at g0 lp hCp hS
                obtain ⟨e, hp, hrest⟩ := Option.bind_eq_some_iff.1 hS
                rw [← Hgo.out] at hp
                have HP := Aside0.mk hp
                have hlp := hCp.2.1
                have HCp := Aside0.mk hCp
                have Hlp := Aside0.mk lp
                have hbb : wo.heap.size + 1 + 1 ≤ wr.heap.size := by have := hB.size; simp at this; omega
                by_cases he : e = 0
                · subst he
                  simp only [if_true] at hrest
                  have HQ := Aside0.mk hrest
                  clear hS HS hrow hrest hCp lp hB hp hB3 hB4
                  go_wp2_with (go_at_call 111; refine (IH.out _ _ _ _ _ _ HCp.out Hlp.out HP.out).mono ?_; rintro e w3 ⟨rfl, hb3⟩)
                  go_roundw
                  case rel => exact ⟨t + 1, by omega, by go_num, HQ, ⟨HB2.out.trans (hb3.mono hbb)⟩⟩
                  case measure => simp [intOf]; omega
                · simp only [if_neg he, Option.bind_some, Option.some.injEq] at hrest
                  subst hrest
                  have heb : (e != 0) = true := by simp [he]
                  clear hS HS hrow hCp lp hB hp he hB3 hB4
                  go_wp2_with (go_at_call 111; refine (IH.out _ _ _ _ _ _ HCp.out Hlp.out HP.out).mono ?_; rintro e w3 ⟨rfl, hb3⟩)
                  go_ret
                  exact ⟨rfl, HB3.out.trans (hb3.mono HB3.out.size)⟩
              · have hS := HS.out
                rw [List.drop_of_length_le (by simp; omega)] at hS
                simp only [shapesParts, Option.bind_some, if_true] at hS
                have HS' := Aside0.mk hS
                clear hS hB hB3 hB4
                go_wp2
                go_roundw
                case rel => exact ⟨j + 1, by omega, by go_num, HS', HB3⟩
                case measure => simp [intOf]; omega
        · rw [if_neg ho, Option.some.injEq] at hL
          have Ho := Aside0.mk hL
          have Hn := Aside0.mk ho
          clear ho hL HL
          by_cases hk : x.f0 = 1
          · have hkb : (x.f0 == 1) = true := by simp [hk]
            have hbc : blockCheck a0 [⟨x.f2, -1, -1, 0⟩] = r := by have h := Ho.out; unfold shapeOwn at h; rwa [if_neg (by omega), if_pos hk] at h
            have hne : (r != 0) = true := by have h := Hn.out; rw [Ho.out] at h; simp [h]
            have hk1 : 1 ≤ x.f0 := by omega
            have hk3 : x.f0 ≤ 3 := by omega
            have Hbc : Aside0 (block_Check.f a0 [⟨x.f2, -1, -1, 0⟩] = some r) := ⟨by rw [block_Check.f, hbc]⟩
            clear hk hbc
            have hbl : Below wr.heap.size wr ((wr.alloc (.cells #[.int .i64 x.f0, .int .i64 x.f1, .slice A2 x.f2.length c2, .slice A3 x.f3.length c3, .slice A4 x.f4.length c4] 127)).alloc (.cells #[.slice A2 x.f2.length c2, .int .i64 (-1), .int .i64 (-1), .int .i64 0] 79)) := ((Below.refl _ _).alloc (Nat.le_refl _) _).alloc (by simp) _
            have H79 : Aside0 (Kd.C k79 ((wr.alloc (.cells #[.int .i64 x.f0, .int .i64 x.f1, .slice A2 x.f2.length c2, .slice A3 x.f3.length c3, .slice A4 x.f4.length c4] 127)).alloc (.cells #[.slice A2 x.f2.length c2, .int .i64 (-1), .int .i64 (-1), .int .i64 0] 79)) (some ⟨wr.heap.size + 1, 0, none⟩) 1 [⟨x.f2, -1, -1, 0⟩]) := ⟨one_block (b := ⟨x.f2, -1, -1, 0⟩) (by simp [go_sem]) (by simp [go_sem]) (by simp [go_sem]) (by simp [go_sem]) Hc2.out (Kd.C_below H2.out hbl)⟩
            have Hbl := Aside0.mk hbl
            clear hbl
            go_wp2_with fail
            refine (block_Check.calls a0 _ 1 [⟨x.f2, -1, -1, 0⟩] r _ H79.out (Nat.le_refl _) Hbc.out).mono ?_
            rintro e w2 ⟨rfl, hb2⟩
            go_wp2_with fail
            go_ret
            exact ⟨rfl, HB.out.trans ((Hbl.out.trans (hb2.mono (by simp; omega))).mono HB.out.size)⟩
          · have hkb : (x.f0 == 1) = false := by simp [hk]
            have hfin : (x.f0 < 1 ∨ x.f0 > 3) ∧ r = 6 ∨ 1 ≤ x.f0 ∧ x.f0 ≤ 3 ∧ (x.f1 < 0 ∨ x.f1 ≥ a0) ∧ r = 2 := by
              have h := Ho.out
              have h2 := Hn.out
              unfold shapeOwn at h h2
              grind
            clear hk
            rcases hfin with ⟨q, rfl⟩ | ⟨q1, q2, q, rfl⟩
            all_goals
              go_wp2
              all_goals
                go_ret
                refine ⟨ret_int ?_, HB.out.alloc HB.out.size _⟩
                omega
      · have hL := HL.out
        rw [List.drop_of_length_le (by omega)] at hL
        simp only [shapesLoop, Option.some.injEq] at hL
        subst hL
        go_wp2
        go_ret
        exact ⟨rfl, HB.out⟩
end Go.Proofs.Ytaicamjpcnhjcaa.PA
