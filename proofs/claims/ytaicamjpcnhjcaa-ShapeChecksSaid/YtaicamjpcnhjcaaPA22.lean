/- Contracts, by a program over the translation: the machine's call of a function comes to what its plain Lean function 'f' says. -/
import Derived.Test.YtaicamjpcnhjcaaPA0
import Derived.Test.YtaicamjpcnhjcaaPA52
import Derived.Test.YtaicamjpcnhjcaaPA71
namespace Go.Proofs.Ytaicamjpcnhjcaa.PA
open Go.RowKit Go.Proofs.YtaicamjpcnhjcaaW.PrintWords Go.Proofs.YtaicamjpcnhjcaaW.PrintLast Go.Proofs.YtaicamjpcnhjcaaW.PrintMore
attribute [local go_sem] max2_int min2_int max_two min_two max_three min_three max_four min_four   -- for this text's walks alone
set_option linter.unusedVariables false
set_option linter.unusedSimpArgs false

/-! ### codemasonref_ProgCheck: function 22 -/
mutual
def codemasonref_ProgCheck.l0 : Nat → Int → List (S79) → Int → List (S79) → Int → Int → Option (Int)
  | 0, _, _, _, _, _, _ => none
  | k + 1, x0, x1, x5, x13, x14, x15 => if x15 < x14 then (if 0 ≤ x15 then (if x15 < (x13.length : Int) then (codemasonref_ProgCheck.l0 k x0 x1 (wrap64 (x5 + (((rd_T79 x13 x15).f0).length : Int))) x13 x14 (wrap64 (x15 + 1))) else (none)) else (none)) else (if x0 < 1 then (codemasonref_ProgCheck.j1 k x0 x1 true) else (if x0 > 6 then (codemasonref_ProgCheck.j1 k x0 x1 true) else (if (x1.length : Int) < 1 then (codemasonref_ProgCheck.j1 k x0 x1 true) else (if (x1.length : Int) > 8 then (codemasonref_ProgCheck.j1 k x0 x1 true) else (codemasonref_ProgCheck.j1 k x0 x1 (decide (x5 > 20)))))))
def codemasonref_ProgCheck.j1 : Nat → Int → List (S79) → Bool → Option (Int)
  | 0, _, _, _ => none
  | k + 1, x0, x1, x44 => if x44 = true then (some 1) else (codemasonref_ProgCheck.l1 k x0 x1 x1 (x1.length : Int) 0)
def codemasonref_ProgCheck.l1 : Nat → Int → List (S79) → List (S79) → Int → Int → Option (Int)
  | 0, _, _, _, _, _ => none
  | k + 1, x0, x1, x45, x46, x47 => if x47 < x46 then (if 0 ≤ x47 then (if x47 < (x45.length : Int) then (codemasonref_ProgCheck.l2 k x0 x1 x45 x46 x47 ((rd_T79 x45 x47).f0) (((rd_T79 x45 x47).f0).length : Int) 0 ((rd_T79 x45 x47).f0) ((rd_T79 x45 x47).f1) ((rd_T79 x45 x47).f2) ((rd_T79 x45 x47).f3)) else (none)) else (none)) else (some 0)
def codemasonref_ProgCheck.l2 : Nat → Int → List (S79) → List (S79) → Int → Int → List (S111) → Int → Int → List (S111) → Int → Int → Int → Option (Int)
  | 0, _, _, _, _, _, _, _, _, _, _, _, _ => none
  | k + 1, x0, x1, x45, x46, x47, x52, x53, x54, x147000, x147001, x147002, x147003 => if x54 < x53 then (if 0 ≤ x54 then (if x54 < (x52.length : Int) then ((codemasonref_StepCheck.f k x0 x0 ((rd_T111 x52 x54).f0) ((rd_T111 x52 x54).f1) ((rd_T111 x52 x54).f2) ((rd_T111 x52 x54).f3) ((rd_T111 x52 x54).f4)).bind fun t149 => (if t149 = 0 then (codemasonref_ProgCheck.l2 k x0 x1 x45 x46 x47 x52 x53 (wrap64 (x54 + 1)) x147000 x147001 x147002 x147003) else (some t149))) else (none)) else (none)) else (if x147001 = (-1) then (codemasonref_ProgCheck.j4 k x0 x1 x45 x46 x47 false x147000 x147001 x147002 x147003) else ((codemasonref_Inside.f k x0 (([x147001] : List Int))).bind fun t153 => (codemasonref_ProgCheck.j4 k x0 x1 x45 x46 x47 (!t153) x147000 x147001 x147002 x147003)))
def codemasonref_ProgCheck.j4 : Nat → Int → List (S79) → List (S79) → Int → Int → Bool → List (S111) → Int → Int → Int → Option (Int)
  | 0, _, _, _, _, _, _, _, _, _, _ => none
  | k + 1, x0, x1, x45, x46, x47, x76, x147000, x147001, x147002, x147003 => if x76 = true then (some 2) else (if x147001 = (-1) then (if x147002 = (-1) then (codemasonref_ProgCheck.j5 k x0 x1 x45 x46 x47 false x147000 x147001 x147002 x147003) else ((codemasonref_Inside.f k (x1.length : Int) (([x147002] : List Int))).bind fun t157 => (codemasonref_ProgCheck.j5 k x0 x1 x45 x46 x47 (!t157) x147000 x147001 x147002 x147003))) else (codemasonref_ProgCheck.j5 k x0 x1 x45 x46 x47 false x147000 x147001 x147002 x147003))
def codemasonref_ProgCheck.j5 : Nat → Int → List (S79) → List (S79) → Int → Int → Bool → List (S111) → Int → Int → Int → Option (Int)
  | 0, _, _, _, _, _, _, _, _, _, _ => none
  | k + 1, x0, x1, x45, x46, x47, x93, x147000, x147001, x147002, x147003 => if x93 = true then (some 3) else (if x147001 ≥ 0 then ((codemasonref_Inside.f k (x1.length : Int) (([x147002, x147003] : List Int))).bind fun t161 => (if t161 = true then (codemasonref_ProgCheck.l1 k x0 x1 x45 x46 (wrap64 (x47 + 1))) else (some 3))) else (codemasonref_ProgCheck.l1 k x0 x1 x45 x46 (wrap64 (x47 + 1))))
end
def codemasonref_ProgCheck.f (k : Nat) (a0 : Int) (l1 : List (S79)) : Option (Int) := codemasonref_ProgCheck.l0 k a0 l1 0 l1 (l1.length : Int) 0
theorem codemasonref_ProgCheck.mono_l : ∀ k, (∀ y0 y1 y2 y3 y4 y5, LeO (codemasonref_ProgCheck.l0 k y0 y1 y2 y3 y4 y5) (codemasonref_ProgCheck.l0 (k + 1) y0 y1 y2 y3 y4 y5)) ∧ (∀ y0 y1 y2, LeO (codemasonref_ProgCheck.j1 k y0 y1 y2) (codemasonref_ProgCheck.j1 (k + 1) y0 y1 y2)) ∧ (∀ y0 y1 y2 y3 y4, LeO (codemasonref_ProgCheck.l1 k y0 y1 y2 y3 y4) (codemasonref_ProgCheck.l1 (k + 1) y0 y1 y2 y3 y4)) ∧ (∀ y0 y1 y2 y3 y4 y5 y6 y7 y8 y9 y10 y11, LeO (codemasonref_ProgCheck.l2 k y0 y1 y2 y3 y4 y5 y6 y7 y8 y9 y10 y11) (codemasonref_ProgCheck.l2 (k + 1) y0 y1 y2 y3 y4 y5 y6 y7 y8 y9 y10 y11)) ∧ (∀ y0 y1 y2 y3 y4 y5 y6 y7 y8 y9, LeO (codemasonref_ProgCheck.j4 k y0 y1 y2 y3 y4 y5 y6 y7 y8 y9) (codemasonref_ProgCheck.j4 (k + 1) y0 y1 y2 y3 y4 y5 y6 y7 y8 y9)) ∧ (∀ y0 y1 y2 y3 y4 y5 y6 y7 y8 y9, LeO (codemasonref_ProgCheck.j5 k y0 y1 y2 y3 y4 y5 y6 y7 y8 y9) (codemasonref_ProgCheck.j5 (k + 1) y0 y1 y2 y3 y4 y5 y6 y7 y8 y9))
  | 0 => ⟨fun _ _ _ _ _ _ r h => by simp [codemasonref_ProgCheck.l0] at h, fun _ _ _ r h => by simp [codemasonref_ProgCheck.j1] at h, fun _ _ _ _ _ r h => by simp [codemasonref_ProgCheck.l1] at h, fun _ _ _ _ _ _ _ _ _ _ _ _ r h => by simp [codemasonref_ProgCheck.l2] at h, fun _ _ _ _ _ _ _ _ _ _ r h => by simp [codemasonref_ProgCheck.j4] at h, fun _ _ _ _ _ _ _ _ _ _ r h => by simp [codemasonref_ProgCheck.j5] at h⟩
  | k + 1 => by
    obtain ⟨ih0, ih1, ih2, ih3, ih4, ih5⟩ := codemasonref_ProgCheck.mono_l k
    refine ⟨?_, ?_, ?_, ?_, ?_, ?_⟩
    · intro y0 y1 y2 y3 y4 y5
      unfold codemasonref_ProgCheck.l0
      repeat' first
      | (with_reducible exact ih0 _ _ _ _ _ _)
      | (with_reducible exact ih1 _ _ _)
      | (with_reducible exact ih2 _ _ _ _ _)
      | (with_reducible exact ih3 _ _ _ _ _ _ _ _ _ _ _ _)
      | (with_reducible exact ih4 _ _ _ _ _ _ _ _ _ _)
      | (with_reducible exact ih5 _ _ _ _ _ _ _ _ _ _)
      | (with_reducible exact codemasonref_Inside.mono _ _ _)
      | (with_reducible exact codemasonref_StepCheck.mono _ _ _ _ _ _ _ _)
      | (with_reducible exact LeO.refl _)
      | (with_reducible exact LeO.none _)
      | (with_reducible refine LeO.ite ?_ ?_)
      | (with_reducible refine LeO.bind ?_ (fun _ => ?_))
      | exact ih0 _ _ _ _ _ _
      | exact ih1 _ _ _
      | exact ih2 _ _ _ _ _
      | exact ih3 _ _ _ _ _ _ _ _ _ _ _ _
      | exact ih4 _ _ _ _ _ _ _ _ _ _
      | exact ih5 _ _ _ _ _ _ _ _ _ _
      | exact codemasonref_Inside.mono _ _ _
      | exact codemasonref_StepCheck.mono _ _ _ _ _ _ _ _
      | exact LeO.none _
      | refine LeO.ite ?_ ?_
      | refine LeO.bind ?_ (fun _ => ?_)
    · intro y0 y1 y2
      unfold codemasonref_ProgCheck.j1
      repeat' first
      | (with_reducible exact ih0 _ _ _ _ _ _)
      | (with_reducible exact ih1 _ _ _)
      | (with_reducible exact ih2 _ _ _ _ _)
      | (with_reducible exact ih3 _ _ _ _ _ _ _ _ _ _ _ _)
      | (with_reducible exact ih4 _ _ _ _ _ _ _ _ _ _)
      | (with_reducible exact ih5 _ _ _ _ _ _ _ _ _ _)
      | (with_reducible exact codemasonref_Inside.mono _ _ _)
      | (with_reducible exact codemasonref_StepCheck.mono _ _ _ _ _ _ _ _)
      | (with_reducible exact LeO.refl _)
      | (with_reducible exact LeO.none _)
      | (with_reducible refine LeO.ite ?_ ?_)
      | (with_reducible refine LeO.bind ?_ (fun _ => ?_))
      | exact ih0 _ _ _ _ _ _
      | exact ih1 _ _ _
      | exact ih2 _ _ _ _ _
      | exact ih3 _ _ _ _ _ _ _ _ _ _ _ _
      | exact ih4 _ _ _ _ _ _ _ _ _ _
      | exact ih5 _ _ _ _ _ _ _ _ _ _
      | exact codemasonref_Inside.mono _ _ _
      | exact codemasonref_StepCheck.mono _ _ _ _ _ _ _ _
      | exact LeO.none _
      | refine LeO.ite ?_ ?_
      | refine LeO.bind ?_ (fun _ => ?_)
    · intro y0 y1 y2 y3 y4
      unfold codemasonref_ProgCheck.l1
      repeat' first
      | (with_reducible exact ih0 _ _ _ _ _ _)
      | (with_reducible exact ih1 _ _ _)
      | (with_reducible exact ih2 _ _ _ _ _)
      | (with_reducible exact ih3 _ _ _ _ _ _ _ _ _ _ _ _)
      | (with_reducible exact ih4 _ _ _ _ _ _ _ _ _ _)
      | (with_reducible exact ih5 _ _ _ _ _ _ _ _ _ _)
      | (with_reducible exact codemasonref_Inside.mono _ _ _)
      | (with_reducible exact codemasonref_StepCheck.mono _ _ _ _ _ _ _ _)
      | (with_reducible exact LeO.refl _)
      | (with_reducible exact LeO.none _)
      | (with_reducible refine LeO.ite ?_ ?_)
      | (with_reducible refine LeO.bind ?_ (fun _ => ?_))
      | exact ih0 _ _ _ _ _ _
      | exact ih1 _ _ _
      | exact ih2 _ _ _ _ _
      | exact ih3 _ _ _ _ _ _ _ _ _ _ _ _
      | exact ih4 _ _ _ _ _ _ _ _ _ _
      | exact ih5 _ _ _ _ _ _ _ _ _ _
      | exact codemasonref_Inside.mono _ _ _
      | exact codemasonref_StepCheck.mono _ _ _ _ _ _ _ _
      | exact LeO.none _
      | refine LeO.ite ?_ ?_
      | refine LeO.bind ?_ (fun _ => ?_)
    · intro y0 y1 y2 y3 y4 y5 y6 y7 y8 y9 y10 y11
      unfold codemasonref_ProgCheck.l2
      repeat' first
      | (with_reducible exact ih0 _ _ _ _ _ _)
      | (with_reducible exact ih1 _ _ _)
      | (with_reducible exact ih2 _ _ _ _ _)
      | (with_reducible exact ih3 _ _ _ _ _ _ _ _ _ _ _ _)
      | (with_reducible exact ih4 _ _ _ _ _ _ _ _ _ _)
      | (with_reducible exact ih5 _ _ _ _ _ _ _ _ _ _)
      | (with_reducible exact codemasonref_Inside.mono _ _ _)
      | (with_reducible exact codemasonref_StepCheck.mono _ _ _ _ _ _ _ _)
      | (with_reducible exact LeO.refl _)
      | (with_reducible exact LeO.none _)
      | (with_reducible refine LeO.ite ?_ ?_)
      | (with_reducible refine LeO.bind ?_ (fun _ => ?_))
      | exact ih0 _ _ _ _ _ _
      | exact ih1 _ _ _
      | exact ih2 _ _ _ _ _
      | exact ih3 _ _ _ _ _ _ _ _ _ _ _ _
      | exact ih4 _ _ _ _ _ _ _ _ _ _
      | exact ih5 _ _ _ _ _ _ _ _ _ _
      | exact codemasonref_Inside.mono _ _ _
      | exact codemasonref_StepCheck.mono _ _ _ _ _ _ _ _
      | exact LeO.none _
      | refine LeO.ite ?_ ?_
      | refine LeO.bind ?_ (fun _ => ?_)
    · intro y0 y1 y2 y3 y4 y5 y6 y7 y8 y9
      unfold codemasonref_ProgCheck.j4
      repeat' first
      | (with_reducible exact ih0 _ _ _ _ _ _)
      | (with_reducible exact ih1 _ _ _)
      | (with_reducible exact ih2 _ _ _ _ _)
      | (with_reducible exact ih3 _ _ _ _ _ _ _ _ _ _ _ _)
      | (with_reducible exact ih4 _ _ _ _ _ _ _ _ _ _)
      | (with_reducible exact ih5 _ _ _ _ _ _ _ _ _ _)
      | (with_reducible exact codemasonref_Inside.mono _ _ _)
      | (with_reducible exact codemasonref_StepCheck.mono _ _ _ _ _ _ _ _)
      | (with_reducible exact LeO.refl _)
      | (with_reducible exact LeO.none _)
      | (with_reducible refine LeO.ite ?_ ?_)
      | (with_reducible refine LeO.bind ?_ (fun _ => ?_))
      | exact ih0 _ _ _ _ _ _
      | exact ih1 _ _ _
      | exact ih2 _ _ _ _ _
      | exact ih3 _ _ _ _ _ _ _ _ _ _ _ _
      | exact ih4 _ _ _ _ _ _ _ _ _ _
      | exact ih5 _ _ _ _ _ _ _ _ _ _
      | exact codemasonref_Inside.mono _ _ _
      | exact codemasonref_StepCheck.mono _ _ _ _ _ _ _ _
      | exact LeO.none _
      | refine LeO.ite ?_ ?_
      | refine LeO.bind ?_ (fun _ => ?_)
    · intro y0 y1 y2 y3 y4 y5 y6 y7 y8 y9
      unfold codemasonref_ProgCheck.j5
      repeat' first
      | (with_reducible exact ih0 _ _ _ _ _ _)
      | (with_reducible exact ih1 _ _ _)
      | (with_reducible exact ih2 _ _ _ _ _)
      | (with_reducible exact ih3 _ _ _ _ _ _ _ _ _ _ _ _)
      | (with_reducible exact ih4 _ _ _ _ _ _ _ _ _ _)
      | (with_reducible exact ih5 _ _ _ _ _ _ _ _ _ _)
      | (with_reducible exact codemasonref_Inside.mono _ _ _)
      | (with_reducible exact codemasonref_StepCheck.mono _ _ _ _ _ _ _ _)
      | (with_reducible exact LeO.refl _)
      | (with_reducible exact LeO.none _)
      | (with_reducible refine LeO.ite ?_ ?_)
      | (with_reducible refine LeO.bind ?_ (fun _ => ?_))
      | exact ih0 _ _ _ _ _ _
      | exact ih1 _ _ _
      | exact ih2 _ _ _ _ _
      | exact ih3 _ _ _ _ _ _ _ _ _ _ _ _
      | exact ih4 _ _ _ _ _ _ _ _ _ _
      | exact ih5 _ _ _ _ _ _ _ _ _ _
      | exact codemasonref_Inside.mono _ _ _
      | exact codemasonref_StepCheck.mono _ _ _ _ _ _ _ _
      | exact LeO.none _
      | refine LeO.ite ?_ ?_
      | refine LeO.bind ?_ (fun _ => ?_)
theorem codemasonref_ProgCheck.mono : ∀ a0 a1 k, LeO (codemasonref_ProgCheck.f k a0 a1) (codemasonref_ProgCheck.f (k + 1) a0 a1) := by
  intro a0 a1 k
  obtain ⟨ih0, ih1, ih2, ih3, ih4, ih5⟩ := codemasonref_ProgCheck.mono_l k
  unfold codemasonref_ProgCheck.f
  repeat' first
      | (with_reducible exact ih0 _ _ _ _ _ _)
      | (with_reducible exact ih1 _ _ _)
      | (with_reducible exact ih2 _ _ _ _ _)
      | (with_reducible exact ih3 _ _ _ _ _ _ _ _ _ _ _ _)
      | (with_reducible exact ih4 _ _ _ _ _ _ _ _ _ _)
      | (with_reducible exact ih5 _ _ _ _ _ _ _ _ _ _)
      | (with_reducible exact codemasonref_Inside.mono _ _ _)
      | (with_reducible exact codemasonref_StepCheck.mono _ _ _ _ _ _ _ _)
      | (with_reducible exact LeO.refl _)
      | (with_reducible exact LeO.none _)
      | (with_reducible refine LeO.ite ?_ ?_)
      | (with_reducible refine LeO.bind ?_ (fun _ => ?_))
      | exact ih0 _ _ _ _ _ _
      | exact ih1 _ _ _
      | exact ih2 _ _ _ _ _
      | exact ih3 _ _ _ _ _ _ _ _ _ _ _ _
      | exact ih4 _ _ _ _ _ _ _ _ _ _
      | exact ih5 _ _ _ _ _ _ _ _ _ _
      | exact codemasonref_Inside.mono _ _ _
      | exact codemasonref_StepCheck.mono _ _ _ _ _ _ _ _
      | exact LeO.none _
      | refine LeO.ite ?_ ?_
      | refine LeO.bind ?_ (fun _ => ?_)
set_option maxHeartbeats 8000000 in
set_option maxRecDepth 100000 in
theorem codemasonref_ProgCheck.calls (k : Nat) (a0 : Int) (A1 : Option Addr) (c1 : Nat) (l1 : List (S79)) (r : Int) (w : World) (hr1 : Kd.C k79 w A1 l1.length l1) (hc1 : l1.length ≤ c1) (h : codemasonref_ProgCheck.f k a0 l1 = some r) :
    Calls Try.prog 22 #[.int .i64 a0, .slice A1 l1.length c1] w fun e w' => e = .returned (.int .i64 r) ∧ Below w.heap.size w w' := by
  have hu79 := Try.underlying79
  have hu111 := Try.underlying111
  have HR1 := Aside0.mk hr1
  have HC1 := Aside0.mk hc1
  clear hr1 hc1
  have HB := Aside0.mk (Below.refl w.heap.size w)
  have H : (codemasonref_ProgCheck.l0 k a0 l1 0 l1 (l1.length : Int) 0) = some r := h
  clear h
  have H' := Aside0.mk H
  clear H
  go_enter Try.func22, Try.ntmps22
  go_wp2
  go_loopg [5, 15] k (fun kq v5 v15 w' => ∃ (x5_1 : Int) (x15_1 : Int), v5 = .int .i64 x5_1 ∧ v15 = .int .i64 x15_1 ∧ Aside0 (codemasonref_ProgCheck.l0 kq a0 l1 x5_1 l1 (l1.length : Int) x15_1 = some r) ∧ Aside0 (kq ≤ k) ∧ Aside0 (Below w.heap.size w w'))
  case atStart => exact ⟨(0), (0), (by first | rfl | (simp; done) | (simp [*]; done)), (by first | rfl | (simp; done) | (simp [*]; done)), H', ⟨Nat.le_refl _⟩, ⟨by repeat (first | (with_reducible first | exact HB.out | apply below_alloc | apply pw_below_drewN | apply below_drew1) | exact HB.out)⟩⟩
  case round =>
    clear H'
    try clear c1
    try clear c2
    try clear p2
    obtain ⟨x5_1, x15_1, rfl, rfl, HA, HK1, HB⟩ := hrel
    cases gk with
    | zero => exact absurd HA.out (by simp [codemasonref_ProgCheck.l0])
    | succ k1 =>
      have H := HA.out
      clear HA
      simp only [codemasonref_ProgCheck.l0] at H
      by_cases c3 : x15_1 < (l1.length : Int)
      · rw [if_pos c3] at H
        have c3b0 : decide (x15_1 < (l1.length : Int)) = true := decide_eq_true c3
        clear c3
        by_cases c4 : 0 ≤ x15_1
        · rw [if_pos c4] at H
          have c4b0 : decide (0 ≤ x15_1) = true := decide_eq_true c4
          clear c4
          by_cases c5 : x15_1 < (l1.length : Int)
          · rw [if_pos c5] at H
            have c5b0 : decide (x15_1 < (l1.length : Int)) = true := decide_eq_true c5
            clear c5
            have H' := Aside0.mk H
            clear H
            have p143 : 0 ≤ (x15_1 : Int) := of_decide_eq_true (by first | (with_reducible assumption) | assumption)
            have q143 : x15_1 < (l1.length : Int) := of_decide_eq_true (by first | (with_reducible assumption) | assumption)
            obtain ⟨ad143, A143_0, c143_0, e143, hx143_0, hx143_1, hx143_2, hx143_3, hl143_0, hi143_0⟩ := at_T79 HR1.out x15_1 p143 q143
            cases e143
            replace hx143_0 := (HB.out.cell (World.block_lt_of_cell? w _ hx143_0)).trans hx143_0
            replace hx143_1 := (HB.out.cell (World.block_lt_of_cell? w _ hx143_1)).trans hx143_1
            replace hx143_2 := (HB.out.cell (World.block_lt_of_cell? w _ hx143_2)).trans hx143_2
            replace hx143_3 := (HB.out.cell (World.block_lt_of_cell? w _ hx143_3)).trans hx143_3
            have HR143_0 := Aside0.mk hi143_0
            have HC143_0 := Aside0.mk hl143_0
            clear hi143_0 hl143_0
            replace p143 := eq_true p143
            replace q143 := eq_true q143
            go_wp2_with (first | ((with_reducible refine gate_dst (N := 7) rfl ?_); (try (refine gate_guard (by rfl) ?_; dsimp only)); refine box_event ?hg (N := 7) ?hd (cs := #[.slice none 0 0, .int .i64 0, .int .i64 0, .int .i64 0]) (t := 79) ?hr ?_; (case hd => rfl); (case hg => rfl); (case hr => first | (go_simp; done) | (go_simp; rfl)); intro gb144 hg w6 hbox hb; have n0_ := Aside0.mk (below_step (by repeat (first | (with_reducible first | exact HB.out | apply below_alloc | apply pw_below_drewN | apply below_drew1) | exact HB.out)) hb); have n1_ := Aside0.mk (hbox); have n2_ := Aside0.mk ((by rw [hg]; exact (below_size (by repeat (first | (with_reducible first | exact HB.out | apply below_alloc | apply pw_below_drewN | apply below_drew1) | exact HB.out))) : w.heap.size ≤ gb144)); have n3_ := Aside0.mk ((by rw [hg]; exact (below_size (by repeat (first | (with_reducible first | exact HB.out | apply below_alloc | apply pw_below_drewN | apply below_drew1) | exact HB.out))) : w.heap.size ≤ gb144)); clear HB; have HB := n0_; have BK144 := n1_; have GW144 := n2_; have GE144 := n3_; clear n0_ n1_ n2_ n3_; clear hb hbox hg; have hcz7_0 : w6.cell? ⟨gb144, 0, none⟩ = some (.slice none 0 0) := (blk_cell BK144.out 0).trans rfl; have hcz7_1 : w6.cell? ⟨gb144, 1, none⟩ = some (.int .i64 0) := (blk_cell BK144.out 1).trans rfl; have hcz7_2 : w6.cell? ⟨gb144, 2, none⟩ = some (.int .i64 0) := (blk_cell BK144.out 2).trans rfl; have hcz7_3 : w6.cell? ⟨gb144, 3, none⟩ = some (.int .i64 0) := (blk_cell BK144.out 3).trans rfl; have hfz7_0 := blk_frozen BK144.out 0; have hfz7_1 := blk_frozen BK144.out 1; have hfz7_2 := blk_frozen BK144.out 2; have hfz7_3 := blk_frozen BK144.out 3))
            go_roundg k1
            case measure => have := HK1.out; omega
            case rel => exact ⟨(wrap64 (x5_1 + (((rd_T79 l1 x15_1).f0).length : Int))), (wrap64 (x15_1 + 1)), (by first | rfl | (simp; done) | (simp [*]; done)), (by first | rfl | (simp; done) | (simp [*]; done)), H', ⟨by have := HK1.out; omega⟩, ⟨by repeat (first | (with_reducible first | exact HB.out | apply below_alloc | apply pw_below_drewN | apply below_drew1 | refine below_set ?_ GE144.out) | exact HB.out)⟩⟩
          · rw [if_neg c5] at H
            exact absurd H (by simp)
        · rw [if_neg c4] at H
          exact absurd H (by simp)
      · rw [if_neg c3] at H
        have c3b0 : decide (x15_1 < (l1.length : Int)) = false := decide_eq_false c3
        clear c3
        have HC8 := Aside0.mk H
        clear H
        go_upto_region 7 with (fail)
        go_cut [44] (fun v44 wc => ∃ (kq : Nat) (x44_7 : Bool), v44 = .bool x44_7 ∧ Aside0 (codemasonref_ProgCheck.j1 kq a0 l1 x44_7 = some r) ∧ Aside0 (kq ≤ k1) ∧ Aside0 (Below w.heap.size w wc))
        case first =>
          have H := HC8.out
          clear HC8
          by_cases c9 : a0 < 1
          · rw [if_pos c9] at H
            have c9b0 : decide (a0 < 1) = true := decide_eq_true c9
            clear c9
            (first | rw [c9b0] | (simp only [i64_w, i32_w]; rw [c9b0]) | skip)
            have H' := Aside0.mk H
            clear H
            go_wp2
            go_meet
            case rel => exact ⟨_, (true), (by first | rfl | (simp; done) | (simp [*]; done)), H', ⟨by have := HK1.out; first | omega | exact Nat.le_refl _⟩, ⟨by repeat (first | (with_reducible first | exact HB.out | apply below_alloc | apply pw_below_drewN | apply below_drew1) | exact HB.out)⟩⟩
          · rw [if_neg c9] at H
            have c9b0 : decide (a0 < 1) = false := decide_eq_false c9
            clear c9
            (first | rw [c9b0] | (simp only [i64_w, i32_w]; rw [c9b0]) | skip)
            by_cases c10 : a0 > 6
            · rw [if_pos c10] at H
              have c10b0 : decide (6 < a0) = true := decide_eq_true c10
              clear c10
              have H' := Aside0.mk H
              clear H
              go_wp2
              go_meet
              case rel => exact ⟨_, (true), (by first | rfl | (simp; done) | (simp [*]; done)), H', ⟨by have := HK1.out; first | omega | exact Nat.le_refl _⟩, ⟨by repeat (first | (with_reducible first | exact HB.out | apply below_alloc | apply pw_below_drewN | apply below_drew1) | exact HB.out)⟩⟩
            · rw [if_neg c10] at H
              have c10b0 : decide (6 < a0) = false := decide_eq_false c10
              clear c10
              by_cases c11 : (l1.length : Int) < 1
              · rw [if_pos c11] at H
                have c11b0 : decide ((l1.length : Int) < 1) = true := decide_eq_true c11
                have c11b1 : decide (l1.length < 1) = true := decide_eq_true (by omega)
                clear c11
                have H' := Aside0.mk H
                clear H
                go_wp2
                go_meet
                case rel => exact ⟨_, (true), (by first | rfl | (simp; done) | (simp [*]; done)), H', ⟨by have := HK1.out; first | omega | exact Nat.le_refl _⟩, ⟨by repeat (first | (with_reducible first | exact HB.out | apply below_alloc | apply pw_below_drewN | apply below_drew1) | exact HB.out)⟩⟩
              · rw [if_neg c11] at H
                have c11b0 : decide ((l1.length : Int) < 1) = false := decide_eq_false c11
                have c11b1 : decide (l1.length < 1) = false := decide_eq_false (by omega)
                clear c11
                by_cases c12 : (l1.length : Int) > 8
                · rw [if_pos c12] at H
                  have c12b0 : decide (8 < (l1.length : Int)) = true := decide_eq_true c12
                  have c12b1 : decide (8 < l1.length) = true := decide_eq_true (by omega)
                  clear c12
                  have H' := Aside0.mk H
                  clear H
                  go_wp2
                  go_meet
                  case rel => exact ⟨_, (true), (by first | rfl | (simp; done) | (simp [*]; done)), H', ⟨by have := HK1.out; first | omega | exact Nat.le_refl _⟩, ⟨by repeat (first | (with_reducible first | exact HB.out | apply below_alloc | apply pw_below_drewN | apply below_drew1) | exact HB.out)⟩⟩
                · rw [if_neg c12] at H
                  have c12b0 : decide (8 < (l1.length : Int)) = false := decide_eq_false c12
                  have c12b1 : decide (8 < l1.length) = false := decide_eq_false (by omega)
                  clear c12
                  have H' := Aside0.mk H
                  clear H
                  go_wp2
                  go_meet
                  case rel => exact ⟨_, (decide (x5_1 > 20)), (by first | rfl | (simp; done) | (simp [*]; done)), H', ⟨by have := HK1.out; first | omega | exact Nat.le_refl _⟩, ⟨by repeat (first | (with_reducible first | exact HB.out | apply below_alloc | apply pw_below_drewN | apply below_drew1) | exact HB.out)⟩⟩
        case rest =>
          clear HC8
          try clear c1
          try clear p1
          try clear q1
          try clear hx1
          try clear c2
          try clear p2
          try clear c3
          try clear c3b0
          try clear c4
          try clear c4b0
          try clear c5
          try clear c5b0
          try clear p6
          try clear c9
          try clear c9b0
          try clear c10
          try clear c10b0
          try clear c11
          try clear c11b0
          try clear c11b1
          try clear c12
          try clear c12b0
          try clear c12b1
          try clear hcz7_0
          try clear hcz7_1
          try clear hcz7_2
          try clear hcz7_3
          try clear hfz7_0
          try clear hfz7_1
          try clear hfz7_2
          try clear hfz7_3
          try clear hx143_0
          try clear hx143_1
          try clear hx143_2
          try clear hx143_3
          try clear p143
          try clear p2
          try clear q143
          obtain ⟨kq, x44_7, rfl, HA, HJ7, HB⟩ := hcut
          cases kq with
          | zero => exact absurd HA.out (by simp [codemasonref_ProgCheck.j1])
          | succ kj7 =>
            have H := HA.out
            clear HA
            simp only [codemasonref_ProgCheck.j1] at H
            by_cases c13 : x44_7 = true
            · subst c13
              have H1 : (some 1) = some r := by rw [if_pos rfl] at H; exact H
              clear H
              have H := H1
              clear H1
              obtain rfl := Option.some.inj H
              go_wp2
              go_ret
              exact ⟨by first | rfl | (simp [errW_none, errW_some] <;> rfl) | (simp [*, errW_none, errW_some] <;> rfl), by repeat (first | (with_reducible first | exact HB.out | apply below_alloc | apply pw_below_drewN | apply below_drew1) | exact HB.out)⟩
            · replace c13 := Bool.eq_false_iff.mpr c13
              subst c13
              have H1 : (codemasonref_ProgCheck.l1 kj7 a0 l1 l1 (l1.length : Int) 0) = some r := by rw [if_neg (show ¬ (false = true) by decide)] at H; exact H
              clear H
              have H := H1
              clear H1
              have H' := Aside0.mk H
              clear H
              go_wp2
              go_loopg [47] kj7 (fun kq v47 w' => ∃ (x47_3 : Int), v47 = .int .i64 x47_3 ∧ Aside0 (codemasonref_ProgCheck.l1 kq a0 l1 l1 (l1.length : Int) x47_3 = some r) ∧ Aside0 (kq ≤ kj7) ∧ Aside0 (Below w.heap.size w w'))
              case atStart => exact ⟨(0), (by first | rfl | (simp; done) | (simp [*]; done)), H', ⟨Nat.le_refl _⟩, ⟨by repeat (first | (with_reducible first | exact HB.out | apply below_alloc | apply pw_below_drewN | apply below_drew1) | exact HB.out)⟩⟩
              case round =>
                clear H'
                try clear c1
                try clear p1
                try clear q1
                try clear hx1
                try clear c2
                try clear p2
                try clear c3
                try clear c3b0
                try clear c4
                try clear c4b0
                try clear c5
                try clear c5b0
                try clear p6
                try clear c9
                try clear c9b0
                try clear c10
                try clear c10b0
                try clear c11
                try clear c11b0
                try clear c11b1
                try clear c12
                try clear c12b0
                try clear c12b1
                try clear c13
                try clear hcz7_0
                try clear hcz7_1
                try clear hcz7_2
                try clear hcz7_3
                try clear hfz7_0
                try clear hfz7_1
                try clear hfz7_2
                try clear hfz7_3
                try clear hx143_0
                try clear hx143_1
                try clear hx143_2
                try clear hx143_3
                try clear p1
                try clear p143
                try clear p2
                try clear p6
                try clear q1
                try clear q143
                obtain ⟨x47_3, rfl, HA, HK3, HB⟩ := hrel
                cases gk with
                | zero => exact absurd HA.out (by simp [codemasonref_ProgCheck.l1])
                | succ k3 =>
                  have H := HA.out
                  clear HA
                  simp only [codemasonref_ProgCheck.l1] at H
                  by_cases c14 : x47_3 < (l1.length : Int)
                  · rw [if_pos c14] at H
                    have c14b0 : decide (x47_3 < (l1.length : Int)) = true := decide_eq_true c14
                    clear c14
                    by_cases c15 : 0 ≤ x47_3
                    · rw [if_pos c15] at H
                      have c15b0 : decide (0 ≤ x47_3) = true := decide_eq_true c15
                      clear c15
                      by_cases c16 : x47_3 < (l1.length : Int)
                      · rw [if_pos c16] at H
                        have c16b0 : decide (x47_3 < (l1.length : Int)) = true := decide_eq_true c16
                        clear c16
                        have H' := Aside0.mk H
                        clear H
                        have p145 : 0 ≤ (x47_3 : Int) := of_decide_eq_true (by first | (with_reducible assumption) | assumption)
                        have q145 : x47_3 < (l1.length : Int) := of_decide_eq_true (by first | (with_reducible assumption) | assumption)
                        obtain ⟨ad145, A145_0, c145_0, e145, hx145_0, hx145_1, hx145_2, hx145_3, hl145_0, hi145_0⟩ := at_T79 HR1.out x47_3 p145 q145
                        cases e145
                        replace hx145_0 := (HB.out.cell (World.block_lt_of_cell? w _ hx145_0)).trans hx145_0
                        replace hx145_1 := (HB.out.cell (World.block_lt_of_cell? w _ hx145_1)).trans hx145_1
                        replace hx145_2 := (HB.out.cell (World.block_lt_of_cell? w _ hx145_2)).trans hx145_2
                        replace hx145_3 := (HB.out.cell (World.block_lt_of_cell? w _ hx145_3)).trans hx145_3
                        have HR145_0 := Aside0.mk hi145_0
                        have HC145_0 := Aside0.mk hl145_0
                        clear hi145_0 hl145_0
                        replace p145 := eq_true p145
                        replace q145 := eq_true q145
                        go_wp2_with (first | ((with_reducible refine gate_dst (N := 9) rfl ?_); (try (refine gate_guard (by rfl) ?_; dsimp only)); refine box_event ?hg (N := 9) ?hd (cs := #[.slice none 0 0, .int .i64 0, .int .i64 0, .int .i64 0]) (t := 79) ?hr ?_; (case hd => rfl); (case hg => rfl); (case hr => first | (go_simp; done) | (go_simp; rfl)); intro gb146 hg w17 hbox hb; have n0_ := Aside0.mk (below_step (by repeat (first | (with_reducible first | exact HB.out | apply below_alloc | apply pw_below_drewN | apply below_drew1) | exact HB.out)) hb); have n1_ := Aside0.mk (hbox); have n2_ := Aside0.mk ((by rw [hg]; exact (below_size (by repeat (first | (with_reducible first | exact HB.out | apply below_alloc | apply pw_below_drewN | apply below_drew1) | exact HB.out))) : w.heap.size ≤ gb146)); have n3_ := Aside0.mk ((by rw [hg]; exact (below_size (by repeat (first | (with_reducible first | exact HB.out | apply below_alloc | apply pw_below_drewN | apply below_drew1) | exact HB.out))) : w.heap.size ≤ gb146)); clear HB; have HB := n0_; have BK146 := n1_; have GW146 := n2_; have GE146 := n3_; clear n0_ n1_ n2_ n3_; clear hb hbox hg; have hcz18_0 : w17.cell? ⟨gb146, 0, none⟩ = some (.slice none 0 0) := (blk_cell BK146.out 0).trans rfl; have hcz18_1 : w17.cell? ⟨gb146, 1, none⟩ = some (.int .i64 0) := (blk_cell BK146.out 1).trans rfl; have hcz18_2 : w17.cell? ⟨gb146, 2, none⟩ = some (.int .i64 0) := (blk_cell BK146.out 2).trans rfl; have hcz18_3 : w17.cell? ⟨gb146, 3, none⟩ = some (.int .i64 0) := (blk_cell BK146.out 3).trans rfl; have hfz18_0 := blk_frozen BK146.out 0; have hfz18_1 := blk_frozen BK146.out 1; have hfz18_2 := blk_frozen BK146.out 2; have hfz18_3 := blk_frozen BK146.out 3))
                        go_loopg [54] k3 (fun kq v54 w' => ∃ (x54_4 : Int), v54 = .int .i64 x54_4 ∧ Aside0 (codemasonref_ProgCheck.l2 kq a0 l1 l1 (l1.length : Int) x47_3 ((rd_T79 l1 x47_3).f0) (((rd_T79 l1 x47_3).f0).length : Int) x54_4 ((rd_T79 l1 x47_3).f0) ((rd_T79 l1 x47_3).f1) ((rd_T79 l1 x47_3).f2) ((rd_T79 l1 x47_3).f3) = some r) ∧ Aside0 (kq ≤ k3) ∧ Aside0 (w'.heap[gb146]? = some (.cells #[(.slice A145_0 ((rd_T79 l1 x47_3).f0).length c145_0), .int .i64 ((rd_T79 l1 x47_3).f1), .int .i64 ((rd_T79 l1 x47_3).f2), .int .i64 ((rd_T79 l1 x47_3).f3)] 79 (0, 0))) ∧ Aside0 (Below w.heap.size w w'))
                        case atStart => exact ⟨(0), (by first | rfl | (simp; done) | (simp [*]; done)), H', ⟨Nat.le_refl _⟩, ⟨by (with_reducible repeat (first | refine blk_drewN ?_ _ | refine blk_drew ?_ | refine blk_alloc ?_ _)); refine blk_put (cs := #[.slice A145_0 ((rd_T79 l1 x47_3).f0).length c145_0, .int .i64 ((rd_T79 l1 x47_3).f1), .int .i64 ((rd_T79 l1 x47_3).f2), .int .i64 0]) ?_ 3 _ rfl; (with_reducible repeat (first | refine blk_drewN ?_ _ | refine blk_drew ?_ | refine blk_alloc ?_ _)); refine blk_put (cs := #[.slice A145_0 ((rd_T79 l1 x47_3).f0).length c145_0, .int .i64 ((rd_T79 l1 x47_3).f1), .int .i64 0, .int .i64 0]) ?_ 2 _ rfl; (with_reducible repeat (first | refine blk_drewN ?_ _ | refine blk_drew ?_ | refine blk_alloc ?_ _)); refine blk_put (cs := #[.slice A145_0 ((rd_T79 l1 x47_3).f0).length c145_0, .int .i64 0, .int .i64 0, .int .i64 0]) ?_ 1 _ rfl; (with_reducible repeat (first | refine blk_drewN ?_ _ | refine blk_drew ?_ | refine blk_alloc ?_ _)); refine blk_put (cs := #[.slice none 0 0, .int .i64 0, .int .i64 0, .int .i64 0]) ?_ 0 _ rfl; (with_reducible repeat (first | refine blk_drewN ?_ _ | refine blk_drew ?_ | refine blk_alloc ?_ _)); exact BK146.out⟩, ⟨by repeat (first | (with_reducible first | exact HB.out | apply below_alloc | apply pw_below_drewN | apply below_drew1 | refine below_set ?_ GE146.out) | exact HB.out)⟩⟩
                        case round =>
                          clear H'
                          try clear c1
                          try clear p1
                          try clear q1
                          try clear hx1
                          try clear c2
                          try clear p2
                          try clear c3
                          try clear c3b0
                          try clear c4
                          try clear c4b0
                          try clear c5
                          try clear c5b0
                          try clear p6
                          try clear c9
                          try clear c9b0
                          try clear c10
                          try clear c10b0
                          try clear c11
                          try clear c11b0
                          try clear c11b1
                          try clear c12
                          try clear c12b0
                          try clear c12b1
                          try clear c13
                          try clear c14
                          try clear c14b0
                          try clear p14
                          try clear q14
                          try clear hx14
                          try clear c15
                          try clear c15b0
                          try clear c16
                          try clear c16b0
                          try clear hcz18_0
                          try clear hcz18_1
                          try clear hcz18_2
                          try clear hcz18_3
                          try clear hcz7_0
                          try clear hcz7_1
                          try clear hcz7_2
                          try clear hcz7_3
                          try clear hfz18_0
                          try clear hfz18_1
                          try clear hfz18_2
                          try clear hfz18_3
                          try clear hfz7_0
                          try clear hfz7_1
                          try clear hfz7_2
                          try clear hfz7_3
                          try clear hx143_0
                          try clear hx143_1
                          try clear hx143_2
                          try clear hx143_3
                          try clear hx145_0
                          try clear hx145_1
                          try clear hx145_2
                          try clear hx145_3
                          try clear p1
                          try clear p143
                          try clear p145
                          try clear p2
                          try clear p6
                          try clear q1
                          try clear q143
                          try clear q145
                          obtain ⟨x54_4, rfl, HA, HK4, BK146, HB⟩ := hrel
                          cases gk with
                          | zero => exact absurd HA.out (by simp [codemasonref_ProgCheck.l2])
                          | succ k4 =>
                            have H := HA.out
                            clear HA
                            simp only [codemasonref_ProgCheck.l2] at H
                            by_cases c19 : x54_4 < (((rd_T79 l1 x47_3).f0).length : Int)
                            · rw [if_pos c19] at H
                              have c19b0 : decide (x54_4 < (((rd_T79 l1 x47_3).f0).length : Int)) = true := decide_eq_true c19
                              clear c19
                              by_cases c20 : 0 ≤ x54_4
                              · rw [if_pos c20] at H
                                have c20b0 : decide (0 ≤ x54_4) = true := decide_eq_true c20
                                clear c20
                                by_cases c21 : x54_4 < (((rd_T79 l1 x47_3).f0).length : Int)
                                · rw [if_pos c21] at H
                                  have c21b0 : decide (x54_4 < (((rd_T79 l1 x47_3).f0).length : Int)) = true := decide_eq_true c21
                                  clear c21
                                  replace H := Option.bind_eq_some_iff.mp H
                                  obtain ⟨t149, A220, H⟩ := H
                                  replace H : (if t149 = 0 then (codemasonref_ProgCheck.l2 k4 a0 l1 l1 (l1.length : Int) x47_3 ((rd_T79 l1 x47_3).f0) (((rd_T79 l1 x47_3).f0).length : Int) (wrap64 (x54_4 + 1)) ((rd_T79 l1 x47_3).f0) ((rd_T79 l1 x47_3).f1) ((rd_T79 l1 x47_3).f2) ((rd_T79 l1 x47_3).f3)) else (some t149)) = some r := H
                                  have A22 := Aside0.mk A220
                                  clear A220
                                  by_cases c23 : t149 = 0
                                  · rw [if_pos c23] at H
                                    have c23b0 : (t149 == 0) = true := beq_iff_eq.mpr c23
                                    have c23b1 : (t149 != 0) = false := bne_eq_false_iff_eq.mpr c23
                                    clear c23
                                    have H' := Aside0.mk H
                                    clear H
                                    have p147 : 0 ≤ (x54_4 : Int) := of_decide_eq_true (by first | (with_reducible assumption) | assumption)
                                    have q147 : x54_4 < (((rd_T79 l1 x47_3).f0).length : Int) := of_decide_eq_true (by first | (with_reducible assumption) | assumption)
                                    obtain ⟨ad147, e147, hx147_0, hx147_1, hx147_2, hx147_3, hx147_4⟩ := at_T111 HR145_0.out x54_4 p147 q147
                                    cases e147
                                    replace hx147_0 := (HB.out.cell (World.block_lt_of_cell? w _ hx147_0)).trans hx147_0
                                    replace hx147_1 := (HB.out.cell (World.block_lt_of_cell? w _ hx147_1)).trans hx147_1
                                    replace hx147_2 := (HB.out.cell (World.block_lt_of_cell? w _ hx147_2)).trans hx147_2
                                    replace hx147_3 := (HB.out.cell (World.block_lt_of_cell? w _ hx147_3)).trans hx147_3
                                    replace hx147_4 := (HB.out.cell (World.block_lt_of_cell? w _ hx147_4)).trans hx147_4
                                    replace p147 := eq_true p147
                                    replace q147 := eq_true q147
                                    go_wp2_with (first | ((with_reducible refine gate_dst (N := 11) rfl ?_); (try (refine gate_guard (by rfl) ?_; dsimp only)); refine box_event ?hg (N := 11) ?hd (cs := #[.int .i64 0, .int .i64 0, .int .i64 0, .int .i64 0, .int .i64 0]) (t := 111) ?hr ?_; (case hd => rfl); (case hg => rfl); (case hr => first | (go_simp; done) | (go_simp; rfl)); intro gb148 hg w24 hbox hb; have n0_ := Aside0.mk (blk_below (g := gb146) (o := .cells #[.slice (some ad147) ((rd_T79 l1 x47_3).f0).length c145_0, .int .i64 ((rd_T79 l1 x47_3).f1), .int .i64 ((rd_T79 l1 x47_3).f2), .int .i64 ((rd_T79 l1 x47_3).f3)] 79 (0, 0)) (by (with_reducible repeat (first | refine blk_drewN ?_ _ | refine blk_drew ?_ | refine blk_alloc ?_ _)); exact BK146.out) hb); have n1_ := Aside0.mk (below_step (by repeat (first | (with_reducible first | exact HB.out | apply below_alloc | apply pw_below_drewN | apply below_drew1 | refine below_set ?_ GE146.out) | exact HB.out)) hb); have n2_ := Aside0.mk (hbox); have n3_ := Aside0.mk ((by rw [hg]; exact (below_size (by repeat (first | (with_reducible first | exact HB.out | apply below_alloc | apply pw_below_drewN | apply below_drew1 | refine below_set ?_ GE146.out) | exact HB.out))) : w.heap.size ≤ gb148)); have n4_ := Aside0.mk ((by rw [hg]; exact (below_size (by repeat (first | (with_reducible first | exact HB.out | apply below_alloc | apply pw_below_drewN | apply below_drew1 | refine below_set ?_ GE146.out) | exact HB.out))) : w.heap.size ≤ gb148)); have n5_ := Aside0.mk ((by rw [hg]; exact Nat.ne_of_lt (blk_lt (g := gb146) (o := .cells #[.slice (some ad147) ((rd_T79 l1 x47_3).f0).length c145_0, .int .i64 ((rd_T79 l1 x47_3).f1), .int .i64 ((rd_T79 l1 x47_3).f2), .int .i64 ((rd_T79 l1 x47_3).f3)] 79 (0, 0)) (by (with_reducible repeat (first | refine blk_drewN ?_ _ | refine blk_drew ?_ | refine blk_alloc ?_ _)); exact BK146.out)) : gb146 ≠ gb148)); have n6_ := Aside0.mk ((by rw [hg]; exact Nat.ne_of_gt (blk_lt (g := gb146) (o := .cells #[.slice (some ad147) ((rd_T79 l1 x47_3).f0).length c145_0, .int .i64 ((rd_T79 l1 x47_3).f1), .int .i64 ((rd_T79 l1 x47_3).f2), .int .i64 ((rd_T79 l1 x47_3).f3)] 79 (0, 0)) (by (with_reducible repeat (first | refine blk_drewN ?_ _ | refine blk_drew ?_ | refine blk_alloc ?_ _)); exact BK146.out)) : gb148 ≠ gb146)); clear BK146; clear HB; have BK146 := n0_; have HB := n1_; have BK148 := n2_; have GW148 := n3_; have GE148 := n4_; have NB146_148 := n5_; have NB148_146 := n6_; clear n0_ n1_ n2_ n3_ n4_ n5_ n6_; clear hb hbox hg; have hnb25 := NB148_146.out; have hnc25 := NB146_148.out; have hcz26_0 : w24.cell? ⟨gb148, 0, none⟩ = some (.int .i64 0) := (blk_cell BK148.out 0).trans rfl; have hcz26_1 : w24.cell? ⟨gb148, 1, none⟩ = some (.int .i64 0) := (blk_cell BK148.out 1).trans rfl; have hcz26_2 : w24.cell? ⟨gb148, 2, none⟩ = some (.int .i64 0) := (blk_cell BK148.out 2).trans rfl; have hcz26_3 : w24.cell? ⟨gb148, 3, none⟩ = some (.int .i64 0) := (blk_cell BK148.out 3).trans rfl; have hcz26_4 : w24.cell? ⟨gb148, 4, none⟩ = some (.int .i64 0) := (blk_cell BK148.out 4).trans rfl; have hfz26_0 := blk_frozen BK148.out 0; have hfz26_1 := blk_frozen BK148.out 1; have hfz26_2 := blk_frozen BK148.out 2; have hfz26_3 := blk_frozen BK148.out 3; have hfz26_4 := blk_frozen BK148.out 4) | ((with_reducible refine gate_callee (f := 71) rfl ?_); refine goesL_ (some 61) rfl rfl Try.func71 (by kernel_rfl) rfl #[.int .i64 a0, .int .i64 a0, .agg #[.int .i64 ((rd_T111 ((rd_T79 l1 x47_3).f0) x54_4).f0), .int .i64 ((rd_T111 ((rd_T79 l1 x47_3).f0) x54_4).f1), .int .i64 ((rd_T111 ((rd_T79 l1 x47_3).f0) x54_4).f2), .int .i64 ((rd_T111 ((rd_T79 l1 x47_3).f0) x54_4).f3), .int .i64 ((rd_T111 ((rd_T79 l1 x47_3).f0) x54_4).f4)]] rfl (by (try simp only [List.map_toArray, List.map_cons, List.map_nil]); first | done | rfl | (simp only [List.length_drop, List.length_take]; rfl)) ?_; (with_reducible refine (codemasonref_StepCheck.calls k4 a0 a0 ((rd_T111 ((rd_T79 l1 x47_3).f0) x54_4).f0) ((rd_T111 ((rd_T79 l1 x47_3).f0) x54_4).f1) ((rd_T111 ((rd_T79 l1 x47_3).f0) x54_4).f2) ((rd_T111 ((rd_T79 l1 x47_3).f0) x54_4).f3) ((rd_T111 ((rd_T79 l1 x47_3).f0) x54_4).f4) t149 _ A22.out).mono ?_); rintro e w27 ⟨rfl, hb⟩; refine ⟨_, rfl, ?_⟩; have n0_ := Aside0.mk (blk_below (g := gb146) (o := .cells #[.slice (some ad147) ((rd_T79 l1 x47_3).f0).length c145_0, .int .i64 ((rd_T79 l1 x47_3).f1), .int .i64 ((rd_T79 l1 x47_3).f2), .int .i64 ((rd_T79 l1 x47_3).f3)] 79 (0, 0)) (by (with_reducible repeat (first | refine blk_drewN ?_ _ | refine blk_drew ?_ | refine blk_alloc ?_ _)); refine blk_far ?_ NB146_148.out _; (with_reducible repeat (first | refine blk_drewN ?_ _ | refine blk_drew ?_ | refine blk_alloc ?_ _)); refine blk_far ?_ NB146_148.out _; (with_reducible repeat (first | refine blk_drewN ?_ _ | refine blk_drew ?_ | refine blk_alloc ?_ _)); refine blk_far ?_ NB146_148.out _; (with_reducible repeat (first | refine blk_drewN ?_ _ | refine blk_drew ?_ | refine blk_alloc ?_ _)); refine blk_far ?_ NB146_148.out _; (with_reducible repeat (first | refine blk_drewN ?_ _ | refine blk_drew ?_ | refine blk_alloc ?_ _)); refine blk_far ?_ NB146_148.out _; (with_reducible repeat (first | refine blk_drewN ?_ _ | refine blk_drew ?_ | refine blk_alloc ?_ _)); exact BK146.out) hb); have n1_ := Aside0.mk (blk_below (g := gb148) (o := .cells #[.int .i64 ((rd_T111 ((rd_T79 l1 x47_3).f0) x54_4).f0), .int .i64 ((rd_T111 ((rd_T79 l1 x47_3).f0) x54_4).f1), .int .i64 ((rd_T111 ((rd_T79 l1 x47_3).f0) x54_4).f2), .int .i64 ((rd_T111 ((rd_T79 l1 x47_3).f0) x54_4).f3), .int .i64 ((rd_T111 ((rd_T79 l1 x47_3).f0) x54_4).f4)] 111 (0, 0)) (by (with_reducible repeat (first | refine blk_drewN ?_ _ | refine blk_drew ?_ | refine blk_alloc ?_ _)); refine blk_put (cs := #[.int .i64 ((rd_T111 ((rd_T79 l1 x47_3).f0) x54_4).f0), .int .i64 ((rd_T111 ((rd_T79 l1 x47_3).f0) x54_4).f1), .int .i64 ((rd_T111 ((rd_T79 l1 x47_3).f0) x54_4).f2), .int .i64 ((rd_T111 ((rd_T79 l1 x47_3).f0) x54_4).f3), .int .i64 0]) ?_ 4 _ rfl; (with_reducible repeat (first | refine blk_drewN ?_ _ | refine blk_drew ?_ | refine blk_alloc ?_ _)); refine blk_put (cs := #[.int .i64 ((rd_T111 ((rd_T79 l1 x47_3).f0) x54_4).f0), .int .i64 ((rd_T111 ((rd_T79 l1 x47_3).f0) x54_4).f1), .int .i64 ((rd_T111 ((rd_T79 l1 x47_3).f0) x54_4).f2), .int .i64 0, .int .i64 0]) ?_ 3 _ rfl; (with_reducible repeat (first | refine blk_drewN ?_ _ | refine blk_drew ?_ | refine blk_alloc ?_ _)); refine blk_put (cs := #[.int .i64 ((rd_T111 ((rd_T79 l1 x47_3).f0) x54_4).f0), .int .i64 ((rd_T111 ((rd_T79 l1 x47_3).f0) x54_4).f1), .int .i64 0, .int .i64 0, .int .i64 0]) ?_ 2 _ rfl; (with_reducible repeat (first | refine blk_drewN ?_ _ | refine blk_drew ?_ | refine blk_alloc ?_ _)); refine blk_put (cs := #[.int .i64 ((rd_T111 ((rd_T79 l1 x47_3).f0) x54_4).f0), .int .i64 0, .int .i64 0, .int .i64 0, .int .i64 0]) ?_ 1 _ rfl; (with_reducible repeat (first | refine blk_drewN ?_ _ | refine blk_drew ?_ | refine blk_alloc ?_ _)); refine blk_put (cs := #[.int .i64 0, .int .i64 0, .int .i64 0, .int .i64 0, .int .i64 0]) ?_ 0 _ rfl; (with_reducible repeat (first | refine blk_drewN ?_ _ | refine blk_drew ?_ | refine blk_alloc ?_ _)); exact BK148.out) hb); have n2_ := Aside0.mk (below_step (by repeat (first | (with_reducible first | exact HB.out | apply below_alloc | apply pw_below_drewN | apply below_drew1 | refine below_set ?_ GE146.out | refine below_set ?_ GE148.out) | exact HB.out)) hb); clear BK146; clear BK148; clear HB; have BK146 := n0_; have BK148 := n1_; have HB := n2_; clear n0_ n1_ n2_; (try clear hb); (try clear hb2); (try clear hk); (try clear hi)))
                                    go_roundg k4
                                    case measure => have := HK1.out; have := HJ7.out; have := HK3.out; have := HK4.out; omega
                                    case rel => exact ⟨(wrap64 (x54_4 + 1)), (by first | rfl | (simp; done) | (simp [*]; done)), H', ⟨by have := HK1.out; have := HJ7.out; have := HK3.out; have := HK4.out; omega⟩, ⟨by (with_reducible repeat (first | refine blk_drewN ?_ _ | refine blk_drew ?_ | refine blk_alloc ?_ _)); exact BK146.out⟩, ⟨by repeat (first | (with_reducible first | exact HB.out | apply below_alloc | apply pw_below_drewN | apply below_drew1 | refine below_set ?_ GE146.out | refine below_set ?_ GE148.out) | exact HB.out)⟩⟩
                                  · rw [if_neg c23] at H
                                    have c23b0 : (t149 == 0) = false := beq_eq_false_iff_ne.mpr c23
                                    have c23b1 : (t149 != 0) = true := bne_iff_ne.mpr c23
                                    obtain rfl := Option.some.inj H
                                    have p147 : 0 ≤ (x54_4 : Int) := of_decide_eq_true (by first | (with_reducible assumption) | assumption)
                                    have q147 : x54_4 < (((rd_T79 l1 x47_3).f0).length : Int) := of_decide_eq_true (by first | (with_reducible assumption) | assumption)
                                    obtain ⟨ad147, e147, hx147_0, hx147_1, hx147_2, hx147_3, hx147_4⟩ := at_T111 HR145_0.out x54_4 p147 q147
                                    cases e147
                                    replace hx147_0 := (HB.out.cell (World.block_lt_of_cell? w _ hx147_0)).trans hx147_0
                                    replace hx147_1 := (HB.out.cell (World.block_lt_of_cell? w _ hx147_1)).trans hx147_1
                                    replace hx147_2 := (HB.out.cell (World.block_lt_of_cell? w _ hx147_2)).trans hx147_2
                                    replace hx147_3 := (HB.out.cell (World.block_lt_of_cell? w _ hx147_3)).trans hx147_3
                                    replace hx147_4 := (HB.out.cell (World.block_lt_of_cell? w _ hx147_4)).trans hx147_4
                                    replace p147 := eq_true p147
                                    replace q147 := eq_true q147
                                    go_wp2_with (first | ((with_reducible refine gate_dst (N := 11) rfl ?_); (try (refine gate_guard (by rfl) ?_; dsimp only)); refine box_event ?hg (N := 11) ?hd (cs := #[.int .i64 0, .int .i64 0, .int .i64 0, .int .i64 0, .int .i64 0]) (t := 111) ?hr ?_; (case hd => rfl); (case hg => rfl); (case hr => first | (go_simp; done) | (go_simp; rfl)); intro gb148 hg w28 hbox hb; have n0_ := Aside0.mk (blk_below (g := gb146) (o := .cells #[.slice (some ad147) ((rd_T79 l1 x47_3).f0).length c145_0, .int .i64 ((rd_T79 l1 x47_3).f1), .int .i64 ((rd_T79 l1 x47_3).f2), .int .i64 ((rd_T79 l1 x47_3).f3)] 79 (0, 0)) (by (with_reducible repeat (first | refine blk_drewN ?_ _ | refine blk_drew ?_ | refine blk_alloc ?_ _)); exact BK146.out) hb); have n1_ := Aside0.mk (below_step (by repeat (first | (with_reducible first | exact HB.out | apply below_alloc | apply pw_below_drewN | apply below_drew1 | refine below_set ?_ GE146.out) | exact HB.out)) hb); have n2_ := Aside0.mk (hbox); have n3_ := Aside0.mk ((by rw [hg]; exact (below_size (by repeat (first | (with_reducible first | exact HB.out | apply below_alloc | apply pw_below_drewN | apply below_drew1 | refine below_set ?_ GE146.out) | exact HB.out))) : w.heap.size ≤ gb148)); have n4_ := Aside0.mk ((by rw [hg]; exact (below_size (by repeat (first | (with_reducible first | exact HB.out | apply below_alloc | apply pw_below_drewN | apply below_drew1 | refine below_set ?_ GE146.out) | exact HB.out))) : w.heap.size ≤ gb148)); have n5_ := Aside0.mk ((by rw [hg]; exact Nat.ne_of_lt (blk_lt (g := gb146) (o := .cells #[.slice (some ad147) ((rd_T79 l1 x47_3).f0).length c145_0, .int .i64 ((rd_T79 l1 x47_3).f1), .int .i64 ((rd_T79 l1 x47_3).f2), .int .i64 ((rd_T79 l1 x47_3).f3)] 79 (0, 0)) (by (with_reducible repeat (first | refine blk_drewN ?_ _ | refine blk_drew ?_ | refine blk_alloc ?_ _)); exact BK146.out)) : gb146 ≠ gb148)); have n6_ := Aside0.mk ((by rw [hg]; exact Nat.ne_of_gt (blk_lt (g := gb146) (o := .cells #[.slice (some ad147) ((rd_T79 l1 x47_3).f0).length c145_0, .int .i64 ((rd_T79 l1 x47_3).f1), .int .i64 ((rd_T79 l1 x47_3).f2), .int .i64 ((rd_T79 l1 x47_3).f3)] 79 (0, 0)) (by (with_reducible repeat (first | refine blk_drewN ?_ _ | refine blk_drew ?_ | refine blk_alloc ?_ _)); exact BK146.out)) : gb148 ≠ gb146)); clear BK146; clear HB; have BK146 := n0_; have HB := n1_; have BK148 := n2_; have GW148 := n3_; have GE148 := n4_; have NB146_148 := n5_; have NB148_146 := n6_; clear n0_ n1_ n2_ n3_ n4_ n5_ n6_; clear hb hbox hg; have hnb29 := NB148_146.out; have hnc29 := NB146_148.out; have hcz30_0 : w28.cell? ⟨gb148, 0, none⟩ = some (.int .i64 0) := (blk_cell BK148.out 0).trans rfl; have hcz30_1 : w28.cell? ⟨gb148, 1, none⟩ = some (.int .i64 0) := (blk_cell BK148.out 1).trans rfl; have hcz30_2 : w28.cell? ⟨gb148, 2, none⟩ = some (.int .i64 0) := (blk_cell BK148.out 2).trans rfl; have hcz30_3 : w28.cell? ⟨gb148, 3, none⟩ = some (.int .i64 0) := (blk_cell BK148.out 3).trans rfl; have hcz30_4 : w28.cell? ⟨gb148, 4, none⟩ = some (.int .i64 0) := (blk_cell BK148.out 4).trans rfl; have hfz30_0 := blk_frozen BK148.out 0; have hfz30_1 := blk_frozen BK148.out 1; have hfz30_2 := blk_frozen BK148.out 2; have hfz30_3 := blk_frozen BK148.out 3; have hfz30_4 := blk_frozen BK148.out 4) | ((with_reducible refine gate_callee (f := 71) rfl ?_); refine goesL_ (some 61) rfl rfl Try.func71 (by kernel_rfl) rfl #[.int .i64 a0, .int .i64 a0, .agg #[.int .i64 ((rd_T111 ((rd_T79 l1 x47_3).f0) x54_4).f0), .int .i64 ((rd_T111 ((rd_T79 l1 x47_3).f0) x54_4).f1), .int .i64 ((rd_T111 ((rd_T79 l1 x47_3).f0) x54_4).f2), .int .i64 ((rd_T111 ((rd_T79 l1 x47_3).f0) x54_4).f3), .int .i64 ((rd_T111 ((rd_T79 l1 x47_3).f0) x54_4).f4)]] rfl (by (try simp only [List.map_toArray, List.map_cons, List.map_nil]); first | done | rfl | (simp only [List.length_drop, List.length_take]; rfl)) ?_; (with_reducible refine (codemasonref_StepCheck.calls k4 a0 a0 ((rd_T111 ((rd_T79 l1 x47_3).f0) x54_4).f0) ((rd_T111 ((rd_T79 l1 x47_3).f0) x54_4).f1) ((rd_T111 ((rd_T79 l1 x47_3).f0) x54_4).f2) ((rd_T111 ((rd_T79 l1 x47_3).f0) x54_4).f3) ((rd_T111 ((rd_T79 l1 x47_3).f0) x54_4).f4) t149 _ A22.out).mono ?_); rintro e w31 ⟨rfl, hb⟩; refine ⟨_, rfl, ?_⟩; have n0_ := Aside0.mk (blk_below (g := gb146) (o := .cells #[.slice (some ad147) ((rd_T79 l1 x47_3).f0).length c145_0, .int .i64 ((rd_T79 l1 x47_3).f1), .int .i64 ((rd_T79 l1 x47_3).f2), .int .i64 ((rd_T79 l1 x47_3).f3)] 79 (0, 0)) (by (with_reducible repeat (first | refine blk_drewN ?_ _ | refine blk_drew ?_ | refine blk_alloc ?_ _)); refine blk_far ?_ NB146_148.out _; (with_reducible repeat (first | refine blk_drewN ?_ _ | refine blk_drew ?_ | refine blk_alloc ?_ _)); refine blk_far ?_ NB146_148.out _; (with_reducible repeat (first | refine blk_drewN ?_ _ | refine blk_drew ?_ | refine blk_alloc ?_ _)); refine blk_far ?_ NB146_148.out _; (with_reducible repeat (first | refine blk_drewN ?_ _ | refine blk_drew ?_ | refine blk_alloc ?_ _)); refine blk_far ?_ NB146_148.out _; (with_reducible repeat (first | refine blk_drewN ?_ _ | refine blk_drew ?_ | refine blk_alloc ?_ _)); refine blk_far ?_ NB146_148.out _; (with_reducible repeat (first | refine blk_drewN ?_ _ | refine blk_drew ?_ | refine blk_alloc ?_ _)); exact BK146.out) hb); have n1_ := Aside0.mk (blk_below (g := gb148) (o := .cells #[.int .i64 ((rd_T111 ((rd_T79 l1 x47_3).f0) x54_4).f0), .int .i64 ((rd_T111 ((rd_T79 l1 x47_3).f0) x54_4).f1), .int .i64 ((rd_T111 ((rd_T79 l1 x47_3).f0) x54_4).f2), .int .i64 ((rd_T111 ((rd_T79 l1 x47_3).f0) x54_4).f3), .int .i64 ((rd_T111 ((rd_T79 l1 x47_3).f0) x54_4).f4)] 111 (0, 0)) (by (with_reducible repeat (first | refine blk_drewN ?_ _ | refine blk_drew ?_ | refine blk_alloc ?_ _)); refine blk_put (cs := #[.int .i64 ((rd_T111 ((rd_T79 l1 x47_3).f0) x54_4).f0), .int .i64 ((rd_T111 ((rd_T79 l1 x47_3).f0) x54_4).f1), .int .i64 ((rd_T111 ((rd_T79 l1 x47_3).f0) x54_4).f2), .int .i64 ((rd_T111 ((rd_T79 l1 x47_3).f0) x54_4).f3), .int .i64 0]) ?_ 4 _ rfl; (with_reducible repeat (first | refine blk_drewN ?_ _ | refine blk_drew ?_ | refine blk_alloc ?_ _)); refine blk_put (cs := #[.int .i64 ((rd_T111 ((rd_T79 l1 x47_3).f0) x54_4).f0), .int .i64 ((rd_T111 ((rd_T79 l1 x47_3).f0) x54_4).f1), .int .i64 ((rd_T111 ((rd_T79 l1 x47_3).f0) x54_4).f2), .int .i64 0, .int .i64 0]) ?_ 3 _ rfl; (with_reducible repeat (first | refine blk_drewN ?_ _ | refine blk_drew ?_ | refine blk_alloc ?_ _)); refine blk_put (cs := #[.int .i64 ((rd_T111 ((rd_T79 l1 x47_3).f0) x54_4).f0), .int .i64 ((rd_T111 ((rd_T79 l1 x47_3).f0) x54_4).f1), .int .i64 0, .int .i64 0, .int .i64 0]) ?_ 2 _ rfl; (with_reducible repeat (first | refine blk_drewN ?_ _ | refine blk_drew ?_ | refine blk_alloc ?_ _)); refine blk_put (cs := #[.int .i64 ((rd_T111 ((rd_T79 l1 x47_3).f0) x54_4).f0), .int .i64 0, .int .i64 0, .int .i64 0, .int .i64 0]) ?_ 1 _ rfl; (with_reducible repeat (first | refine blk_drewN ?_ _ | refine blk_drew ?_ | refine blk_alloc ?_ _)); refine blk_put (cs := #[.int .i64 0, .int .i64 0, .int .i64 0, .int .i64 0, .int .i64 0]) ?_ 0 _ rfl; (with_reducible repeat (first | refine blk_drewN ?_ _ | refine blk_drew ?_ | refine blk_alloc ?_ _)); exact BK148.out) hb); have n2_ := Aside0.mk (below_step (by repeat (first | (with_reducible first | exact HB.out | apply below_alloc | apply pw_below_drewN | apply below_drew1 | refine below_set ?_ GE146.out | refine below_set ?_ GE148.out) | exact HB.out)) hb); clear BK146; clear BK148; clear HB; have BK146 := n0_; have BK148 := n1_; have HB := n2_; clear n0_ n1_ n2_; (try clear hb); (try clear hb2); (try clear hk); (try clear hi)))
                                    go_ret
                                    exact ⟨by first | rfl | (simp [errW_none, errW_some] <;> rfl) | (simp [*, errW_none, errW_some] <;> rfl), by repeat (first | (with_reducible first | exact HB.out | apply below_alloc | apply pw_below_drewN | apply below_drew1 | refine below_set ?_ GE146.out | refine below_set ?_ GE148.out) | exact HB.out)⟩
                                · rw [if_neg c21] at H
                                  exact absurd H (by simp)
                              · rw [if_neg c20] at H
                                exact absurd H (by simp)
                            · rw [if_neg c19] at H
                              have c19b0 : decide (x54_4 < (((rd_T79 l1 x47_3).f0).length : Int)) = false := decide_eq_false c19
                              clear c19
                              have HC32 := Aside0.mk H
                              clear H
                              go_upto_region 19 with (fail)
                              go_cut [76] (fun v76 wc => ∃ (kq : Nat) (x76_31 : Bool), v76 = .bool x76_31 ∧ Aside0 (codemasonref_ProgCheck.j4 kq a0 l1 l1 (l1.length : Int) x47_3 x76_31 ((rd_T79 l1 x47_3).f0) ((rd_T79 l1 x47_3).f1) ((rd_T79 l1 x47_3).f2) ((rd_T79 l1 x47_3).f3) = some r) ∧ Aside0 (kq ≤ k4) ∧ Aside0 (wc.heap[gb146]? = some (.cells #[(.slice A145_0 ((rd_T79 l1 x47_3).f0).length c145_0), .int .i64 ((rd_T79 l1 x47_3).f1), .int .i64 ((rd_T79 l1 x47_3).f2), .int .i64 ((rd_T79 l1 x47_3).f3)] 79 (0, 0))) ∧ Aside0 (Below w.heap.size w wc))
                              case first =>
                                have H := HC32.out
                                clear HC32
                                by_cases c33 : ((rd_T79 l1 x47_3).f1) = (-1)
                                · rw [if_pos c33] at H
                                  have c33b0 : (((rd_T79 l1 x47_3).f1) == (-1)) = true := beq_iff_eq.mpr c33
                                  have c33b1 : (((rd_T79 l1 x47_3).f1) != (-1)) = false := bne_eq_false_iff_eq.mpr c33
                                  clear c33
                                  (first | rw [c33b0] | (simp only [i64_w, i32_w]; rw [c33b0]) | skip)
                                  have H' := Aside0.mk H
                                  clear H
                                  have hcz34_0 : wr.cell? ⟨gb146, 0, none⟩ = some (.slice A145_0 ((rd_T79 l1 x47_3).f0).length c145_0) := (blk_cell BK146.out 0).trans rfl
                                  have hcz34_1 : wr.cell? ⟨gb146, 1, none⟩ = some (.int .i64 ((rd_T79 l1 x47_3).f1)) := (blk_cell BK146.out 1).trans rfl
                                  have hcz34_2 : wr.cell? ⟨gb146, 2, none⟩ = some (.int .i64 ((rd_T79 l1 x47_3).f2)) := (blk_cell BK146.out 2).trans rfl
                                  have hcz34_3 : wr.cell? ⟨gb146, 3, none⟩ = some (.int .i64 ((rd_T79 l1 x47_3).f3)) := (blk_cell BK146.out 3).trans rfl
                                  have hfz34_0 := blk_frozen BK146.out 0
                                  have hfz34_1 := blk_frozen BK146.out 1
                                  have hfz34_2 := blk_frozen BK146.out 2
                                  have hfz34_3 := blk_frozen BK146.out 3
                                  go_wp2
                                  go_meet
                                  case rel => exact ⟨_, (false), (by first | rfl | (simp; done) | (simp [*]; done)), H', ⟨by have := HK1.out; have := HJ7.out; have := HK3.out; have := HK4.out; first | omega | exact Nat.le_refl _⟩, ⟨by (with_reducible repeat (first | refine blk_drewN ?_ _ | refine blk_drew ?_ | refine blk_alloc ?_ _)); exact BK146.out⟩, ⟨by repeat (first | (with_reducible first | exact HB.out | apply below_alloc | apply pw_below_drewN | apply below_drew1 | refine below_set ?_ GE146.out) | exact HB.out)⟩⟩
                                · rw [if_neg c33] at H
                                  have c33b0 : (((rd_T79 l1 x47_3).f1) == (-1)) = false := beq_eq_false_iff_ne.mpr c33
                                  have c33b1 : (((rd_T79 l1 x47_3).f1) != (-1)) = true := bne_iff_ne.mpr c33
                                  (first | rw [c33b0] | (simp only [i64_w, i32_w]; rw [c33b0]) | skip)
                                  obtain ⟨y150, hy150⟩ : ∃ y_ : List Int, y_ = (([((rd_T79 l1 x47_3).f1)] : List Int)) := ⟨_, rfl⟩
                                  replace H : ((codemasonref_Inside.f k4 a0 y150).bind fun t153 => (codemasonref_ProgCheck.j4 k4 a0 l1 l1 (l1.length : Int) x47_3 (!t153) ((rd_T79 l1 x47_3).f0) ((rd_T79 l1 x47_3).f1) ((rd_T79 l1 x47_3).f2) ((rd_T79 l1 x47_3).f3))) = some r := by first | (rw [hy150]; with_reducible exact H) | (have H2_ := (Option.bind_some _ _).symm.trans H; rw [hy150]; with_reducible exact H2_) | (have H2_ := (Option.bind_some _ _).symm.trans H; with_reducible exact H2_) | with_reducible exact H | (rw [hy150]; exact H) | exact H
                                  have Ny150 := Aside0.mk hy150
                                  clear hy150
                                  replace H := Option.bind_eq_some_iff.mp H
                                  obtain ⟨t153, A350, H⟩ := H
                                  replace H : (codemasonref_ProgCheck.j4 k4 a0 l1 l1 (l1.length : Int) x47_3 (!t153) ((rd_T79 l1 x47_3).f0) ((rd_T79 l1 x47_3).f1) ((rd_T79 l1 x47_3).f2) ((rd_T79 l1 x47_3).f3)) = some r := H
                                  have A35 := Aside0.mk A350
                                  clear A350
                                  have H' := Aside0.mk H
                                  clear H
                                  have hcz36_0 : wr.cell? ⟨gb146, 0, none⟩ = some (.slice A145_0 ((rd_T79 l1 x47_3).f0).length c145_0) := (blk_cell BK146.out 0).trans rfl
                                  have hcz36_1 : wr.cell? ⟨gb146, 1, none⟩ = some (.int .i64 ((rd_T79 l1 x47_3).f1)) := (blk_cell BK146.out 1).trans rfl
                                  have hcz36_2 : wr.cell? ⟨gb146, 2, none⟩ = some (.int .i64 ((rd_T79 l1 x47_3).f2)) := (blk_cell BK146.out 2).trans rfl
                                  have hcz36_3 : wr.cell? ⟨gb146, 3, none⟩ = some (.int .i64 ((rd_T79 l1 x47_3).f3)) := (blk_cell BK146.out 3).trans rfl
                                  have hfz36_0 := blk_frozen BK146.out 0
                                  have hfz36_1 := blk_frozen BK146.out 1
                                  have hfz36_2 := blk_frozen BK146.out 2
                                  have hfz36_3 := blk_frozen BK146.out 3
                                  go_wp2_with (first | ((with_reducible refine gate_dst (N := 73) rfl ?_); (try (refine gate_guard (by rfl) ?_; dsimp only)); refine Kd.R_lit (Kd.int .i64) _ 3 ?hg (N := 73) ?hd (xs := ([((rd_T79 l1 x47_3).f1)] : List Int)) (inner := [.int .i64 ((rd_T79 l1 x47_3).f1)]) (ok := fun _ => True) (okp := fun _ => True) ?hr ?hp (fun _ hk => hk) trivial (Below.refl _ _) (Nat.le_refl _) (by simp) ?_; (case hd => rfl); (case hg => rfl); (case hr => first | (go_simp; done) | (go_simp; rfl)); (case hp => exact (Reps.one (show Kd.M (Kd.int .i64) _ _ _ ((rd_T79 l1 x47_3).f1) [.int .i64 ((rd_T79 l1 x47_3).f1)] from rfl) (Reps.none _ _))); intro v151 w37 ho38 hb hg_ hnew_; clear hg_ hnew_; (first | rw [← Ny150.out] at ho38 | (simp only [Int.reduceToNat] at ho38; rw [← Ny150.out] at ho38)); have n0_ := Aside0.mk (Kd.R_lower ho38 (below_size (by repeat (first | (with_reducible first | exact HB.out | apply below_alloc | apply pw_below_drewN | apply below_drew1 | refine below_set ?_ GE146.out) | exact HB.out)))); have n1_ := Aside0.mk (blk_below (g := gb146) (o := .cells #[.slice A145_0 ((rd_T79 l1 x47_3).f0).length c145_0, .int .i64 ((rd_T79 l1 x47_3).f1), .int .i64 ((rd_T79 l1 x47_3).f2), .int .i64 ((rd_T79 l1 x47_3).f3)] 79 (0, 0)) (by (with_reducible repeat (first | refine blk_drewN ?_ _ | refine blk_drew ?_ | refine blk_alloc ?_ _)); exact BK146.out) hb); have n2_ := Aside0.mk (below_step (by repeat (first | (with_reducible first | exact HB.out | apply below_alloc | apply pw_below_drewN | apply below_drew1 | refine below_set ?_ GE146.out) | exact HB.out)) hb); clear BK146; clear HB; have HO152 := n0_; have BK146 := n1_; have HB := n2_; clear n0_ n1_ n2_; clear hb ho38; obtain ⟨Ao39, co39, eo39⟩ := Kd.R_slice HO152.out; subst eo39) | (go_at_call 52; (with_reducible refine (codemasonref_Inside.calls k4 a0 _ _ y150 t153 _ ?side1 ?side2 A35.out).mono ?_); (case side1 => repeat (first | exact (Kd.R_reads' HO152.out).2.2 | (with_reducible refine Kd.C_alloc ?_ _) | (with_reducible refine Kd.C_drewN ?_ _) | (with_reducible refine Kd.C_drew ?_))); (case side2 => exact (Kd.R_reads' HO152.out).2.1); rintro e w' ⟨rfl, ⟨nd, rfl⟩⟩))
                                  go_meet
                                  case rel => exact ⟨_, (!t153), (by first | rfl | (simp; done) | (simp [*]; done)), H', ⟨by have := HK1.out; have := HJ7.out; have := HK3.out; have := HK4.out; first | omega | exact Nat.le_refl _⟩, ⟨by (with_reducible repeat (first | refine blk_drewN ?_ _ | refine blk_drew ?_ | refine blk_alloc ?_ _)); exact BK146.out⟩, ⟨by repeat (first | (with_reducible first | exact HB.out | apply below_alloc | apply pw_below_drewN | apply below_drew1 | refine below_set ?_ GE146.out) | exact HB.out)⟩⟩
                              case rest =>
                                clear HC32
                                try clear c1
                                try clear p1
                                try clear q1
                                try clear hx1
                                try clear c2
                                try clear p2
                                try clear c3
                                try clear c3b0
                                try clear c4
                                try clear c4b0
                                try clear c5
                                try clear c5b0
                                try clear p6
                                try clear c7
                                try clear c9
                                try clear c9b0
                                try clear c10
                                try clear c10b0
                                try clear c11
                                try clear c11b0
                                try clear c11b1
                                try clear c12
                                try clear c12b0
                                try clear c12b1
                                try clear c13
                                try clear c14
                                try clear c14b0
                                try clear p14
                                try clear q14
                                try clear hx14
                                try clear c15
                                try clear c15b0
                                try clear c16
                                try clear c16b0
                                try clear c19
                                try clear c19b0
                                try clear c20
                                try clear c20b0
                                try clear c21
                                try clear c21b0
                                try clear c22
                                try clear c23
                                try clear c23b0
                                try clear c23b1
                                try clear c25
                                try clear c29
                                try clear c33
                                try clear c33b0
                                try clear c33b1
                                try clear hcz18_0
                                try clear hcz18_1
                                try clear hcz18_2
                                try clear hcz18_3
                                try clear hcz26_0
                                try clear hcz26_1
                                try clear hcz26_2
                                try clear hcz26_3
                                try clear hcz26_4
                                try clear hcz30_0
                                try clear hcz30_1
                                try clear hcz30_2
                                try clear hcz30_3
                                try clear hcz30_4
                                try clear hcz34_0
                                try clear hcz34_1
                                try clear hcz34_2
                                try clear hcz34_3
                                try clear hcz36_0
                                try clear hcz36_1
                                try clear hcz36_2
                                try clear hcz36_3
                                try clear hcz7_0
                                try clear hcz7_1
                                try clear hcz7_2
                                try clear hcz7_3
                                try clear hfz18_0
                                try clear hfz18_1
                                try clear hfz18_2
                                try clear hfz18_3
                                try clear hfz26_0
                                try clear hfz26_1
                                try clear hfz26_2
                                try clear hfz26_3
                                try clear hfz26_4
                                try clear hfz30_0
                                try clear hfz30_1
                                try clear hfz30_2
                                try clear hfz30_3
                                try clear hfz30_4
                                try clear hfz34_0
                                try clear hfz34_1
                                try clear hfz34_2
                                try clear hfz34_3
                                try clear hfz36_0
                                try clear hfz36_1
                                try clear hfz36_2
                                try clear hfz36_3
                                try clear hfz7_0
                                try clear hfz7_1
                                try clear hfz7_2
                                try clear hfz7_3
                                try clear hx143_0
                                try clear hx143_1
                                try clear hx143_2
                                try clear hx143_3
                                try clear hx145_0
                                try clear hx145_1
                                try clear hx145_2
                                try clear hx145_3
                                try clear hx147_0
                                try clear hx147_1
                                try clear hx147_2
                                try clear hx147_3
                                try clear hx147_4
                                try clear p1
                                try clear p14
                                try clear p143
                                try clear p145
                                try clear p147
                                try clear p2
                                try clear p6
                                try clear q1
                                try clear q14
                                try clear q143
                                try clear q145
                                try clear q147
                                obtain ⟨kq, x76_31, rfl, HA, HJ31, BK146, HB⟩ := hcut
                                cases kq with
                                | zero => exact absurd HA.out (by simp [codemasonref_ProgCheck.j4])
                                | succ kj31 =>
                                  have H := HA.out
                                  clear HA
                                  simp only [codemasonref_ProgCheck.j4] at H
                                  by_cases c40 : x76_31 = true
                                  · subst c40
                                    have H1 : (some 2) = some r := by rw [if_pos rfl] at H; exact H
                                    clear H
                                    have H := H1
                                    clear H1
                                    obtain rfl := Option.some.inj H
                                    go_wp2
                                    go_ret
                                    exact ⟨by first | rfl | (simp [errW_none, errW_some] <;> rfl) | (simp [*, errW_none, errW_some] <;> rfl), by repeat (first | (with_reducible first | exact HB.out | apply below_alloc | apply pw_below_drewN | apply below_drew1 | refine below_set ?_ GE146.out) | exact HB.out)⟩
                                  · replace c40 := Bool.eq_false_iff.mpr c40
                                    subst c40
                                    have H1 : (if ((rd_T79 l1 x47_3).f1) = (-1) then (if ((rd_T79 l1 x47_3).f2) = (-1) then (codemasonref_ProgCheck.j5 kj31 a0 l1 l1 (l1.length : Int) x47_3 false ((rd_T79 l1 x47_3).f0) ((rd_T79 l1 x47_3).f1) ((rd_T79 l1 x47_3).f2) ((rd_T79 l1 x47_3).f3)) else ((codemasonref_Inside.f kj31 (l1.length : Int) (([((rd_T79 l1 x47_3).f2)] : List Int))).bind fun t157 => (codemasonref_ProgCheck.j5 kj31 a0 l1 l1 (l1.length : Int) x47_3 (!t157) ((rd_T79 l1 x47_3).f0) ((rd_T79 l1 x47_3).f1) ((rd_T79 l1 x47_3).f2) ((rd_T79 l1 x47_3).f3)))) else (codemasonref_ProgCheck.j5 kj31 a0 l1 l1 (l1.length : Int) x47_3 false ((rd_T79 l1 x47_3).f0) ((rd_T79 l1 x47_3).f1) ((rd_T79 l1 x47_3).f2) ((rd_T79 l1 x47_3).f3))) = some r := by rw [if_neg (show ¬ (false = true) by decide)] at H; exact H
                                    clear H
                                    have H := H1
                                    clear H1
                                    have HC41 := Aside0.mk H
                                    clear H
                                    go_upto_region 21 with (fail)
                                    go_cut [93] (fun v93 wc => ∃ (kq : Nat) (x93_40 : Bool), v93 = .bool x93_40 ∧ Aside0 (codemasonref_ProgCheck.j5 kq a0 l1 l1 (l1.length : Int) x47_3 x93_40 ((rd_T79 l1 x47_3).f0) ((rd_T79 l1 x47_3).f1) ((rd_T79 l1 x47_3).f2) ((rd_T79 l1 x47_3).f3) = some r) ∧ Aside0 (kq ≤ kj31) ∧ Aside0 (wc.heap[gb146]? = some (.cells #[(.slice A145_0 ((rd_T79 l1 x47_3).f0).length c145_0), .int .i64 ((rd_T79 l1 x47_3).f1), .int .i64 ((rd_T79 l1 x47_3).f2), .int .i64 ((rd_T79 l1 x47_3).f3)] 79 (0, 0))) ∧ Aside0 (Below w.heap.size w wc))
                                    case first =>
                                      have H := HC41.out
                                      clear HC41
                                      by_cases c42 : ((rd_T79 l1 x47_3).f1) = (-1)
                                      · rw [if_pos c42] at H
                                        have c42b0 : (((rd_T79 l1 x47_3).f1) == (-1)) = true := beq_iff_eq.mpr c42
                                        have c42b1 : (((rd_T79 l1 x47_3).f1) != (-1)) = false := bne_eq_false_iff_eq.mpr c42
                                        clear c42
                                        (first | rw [c42b0] | (simp only [i64_w, i32_w]; rw [c42b0]) | skip)
                                        by_cases c43 : ((rd_T79 l1 x47_3).f2) = (-1)
                                        · rw [if_pos c43] at H
                                          have c43b0 : (((rd_T79 l1 x47_3).f2) == (-1)) = true := beq_iff_eq.mpr c43
                                          have c43b1 : (((rd_T79 l1 x47_3).f2) != (-1)) = false := bne_eq_false_iff_eq.mpr c43
                                          clear c43
                                          have H' := Aside0.mk H
                                          clear H
                                          have hcz44_0 : wc.cell? ⟨gb146, 0, none⟩ = some (.slice A145_0 ((rd_T79 l1 x47_3).f0).length c145_0) := (blk_cell BK146.out 0).trans rfl
                                          have hcz44_1 : wc.cell? ⟨gb146, 1, none⟩ = some (.int .i64 ((rd_T79 l1 x47_3).f1)) := (blk_cell BK146.out 1).trans rfl
                                          have hcz44_2 : wc.cell? ⟨gb146, 2, none⟩ = some (.int .i64 ((rd_T79 l1 x47_3).f2)) := (blk_cell BK146.out 2).trans rfl
                                          have hcz44_3 : wc.cell? ⟨gb146, 3, none⟩ = some (.int .i64 ((rd_T79 l1 x47_3).f3)) := (blk_cell BK146.out 3).trans rfl
                                          have hfz44_0 := blk_frozen BK146.out 0
                                          have hfz44_1 := blk_frozen BK146.out 1
                                          have hfz44_2 := blk_frozen BK146.out 2
                                          have hfz44_3 := blk_frozen BK146.out 3
                                          go_wp2
                                          go_meet
                                          case rel => exact ⟨_, (false), (by first | rfl | (simp; done) | (simp [*]; done)), H', ⟨by have := HK1.out; have := HJ7.out; have := HK3.out; have := HK4.out; have := HJ31.out; first | omega | exact Nat.le_refl _⟩, ⟨by (with_reducible repeat (first | refine blk_drewN ?_ _ | refine blk_drew ?_ | refine blk_alloc ?_ _)); exact BK146.out⟩, ⟨by repeat (first | (with_reducible first | exact HB.out | apply below_alloc | apply pw_below_drewN | apply below_drew1 | refine below_set ?_ GE146.out) | exact HB.out)⟩⟩
                                        · rw [if_neg c43] at H
                                          have c43b0 : (((rd_T79 l1 x47_3).f2) == (-1)) = false := beq_eq_false_iff_ne.mpr c43
                                          have c43b1 : (((rd_T79 l1 x47_3).f2) != (-1)) = true := bne_iff_ne.mpr c43
                                          obtain ⟨y154, hy154⟩ : ∃ y_ : List Int, y_ = (([((rd_T79 l1 x47_3).f2)] : List Int)) := ⟨_, rfl⟩
                                          replace H : ((codemasonref_Inside.f kj31 (l1.length : Int) y154).bind fun t157 => (codemasonref_ProgCheck.j5 kj31 a0 l1 l1 (l1.length : Int) x47_3 (!t157) ((rd_T79 l1 x47_3).f0) ((rd_T79 l1 x47_3).f1) ((rd_T79 l1 x47_3).f2) ((rd_T79 l1 x47_3).f3))) = some r := by first | (rw [hy154]; with_reducible exact H) | (have H2_ := (Option.bind_some _ _).symm.trans H; rw [hy154]; with_reducible exact H2_) | (have H2_ := (Option.bind_some _ _).symm.trans H; with_reducible exact H2_) | with_reducible exact H | (rw [hy154]; exact H) | exact H
                                          have Ny154 := Aside0.mk hy154
                                          clear hy154
                                          replace H := Option.bind_eq_some_iff.mp H
                                          obtain ⟨t157, A450, H⟩ := H
                                          replace H : (codemasonref_ProgCheck.j5 kj31 a0 l1 l1 (l1.length : Int) x47_3 (!t157) ((rd_T79 l1 x47_3).f0) ((rd_T79 l1 x47_3).f1) ((rd_T79 l1 x47_3).f2) ((rd_T79 l1 x47_3).f3)) = some r := H
                                          have A45 := Aside0.mk A450
                                          clear A450
                                          have H' := Aside0.mk H
                                          clear H
                                          have hcz46_0 : wc.cell? ⟨gb146, 0, none⟩ = some (.slice A145_0 ((rd_T79 l1 x47_3).f0).length c145_0) := (blk_cell BK146.out 0).trans rfl
                                          have hcz46_1 : wc.cell? ⟨gb146, 1, none⟩ = some (.int .i64 ((rd_T79 l1 x47_3).f1)) := (blk_cell BK146.out 1).trans rfl
                                          have hcz46_2 : wc.cell? ⟨gb146, 2, none⟩ = some (.int .i64 ((rd_T79 l1 x47_3).f2)) := (blk_cell BK146.out 2).trans rfl
                                          have hcz46_3 : wc.cell? ⟨gb146, 3, none⟩ = some (.int .i64 ((rd_T79 l1 x47_3).f3)) := (blk_cell BK146.out 3).trans rfl
                                          have hfz46_0 := blk_frozen BK146.out 0
                                          have hfz46_1 := blk_frozen BK146.out 1
                                          have hfz46_2 := blk_frozen BK146.out 2
                                          have hfz46_3 := blk_frozen BK146.out 3
                                          go_wp2_with (first | ((with_reducible refine gate_dst (N := 90) rfl ?_); (try (refine gate_guard (by rfl) ?_; dsimp only)); refine Kd.R_lit (Kd.int .i64) _ 3 ?hg (N := 90) ?hd (xs := ([((rd_T79 l1 x47_3).f2)] : List Int)) (inner := [.int .i64 ((rd_T79 l1 x47_3).f2)]) (ok := fun _ => True) (okp := fun _ => True) ?hr ?hp (fun _ hk => hk) trivial (Below.refl _ _) (Nat.le_refl _) (by simp) ?_; (case hd => rfl); (case hg => rfl); (case hr => first | (go_simp; done) | (go_simp; rfl)); (case hp => exact (Reps.one (show Kd.M (Kd.int .i64) _ _ _ ((rd_T79 l1 x47_3).f2) [.int .i64 ((rd_T79 l1 x47_3).f2)] from rfl) (Reps.none _ _))); intro v155 w47 ho48 hb hg_ hnew_; clear hg_ hnew_; (first | rw [← Ny154.out] at ho48 | (simp only [Int.reduceToNat] at ho48; rw [← Ny154.out] at ho48)); have n0_ := Aside0.mk (Kd.R_lower ho48 (below_size (by repeat (first | (with_reducible first | exact HB.out | apply below_alloc | apply pw_below_drewN | apply below_drew1 | refine below_set ?_ GE146.out) | exact HB.out)))); have n1_ := Aside0.mk (blk_below (g := gb146) (o := .cells #[.slice A145_0 ((rd_T79 l1 x47_3).f0).length c145_0, .int .i64 ((rd_T79 l1 x47_3).f1), .int .i64 ((rd_T79 l1 x47_3).f2), .int .i64 ((rd_T79 l1 x47_3).f3)] 79 (0, 0)) (by (with_reducible repeat (first | refine blk_drewN ?_ _ | refine blk_drew ?_ | refine blk_alloc ?_ _)); exact BK146.out) hb); have n2_ := Aside0.mk (below_step (by repeat (first | (with_reducible first | exact HB.out | apply below_alloc | apply pw_below_drewN | apply below_drew1 | refine below_set ?_ GE146.out) | exact HB.out)) hb); clear BK146; clear HB; have HO156 := n0_; have BK146 := n1_; have HB := n2_; clear n0_ n1_ n2_; clear hb ho48; obtain ⟨Ao49, co49, eo49⟩ := Kd.R_slice HO156.out; subst eo49) | (go_at_call 52; (with_reducible refine (codemasonref_Inside.calls kj31 (l1.length : Int) _ _ y154 t157 _ ?side1 ?side2 A45.out).mono ?_); (case side1 => repeat (first | exact (Kd.R_reads' HO156.out).2.2 | (with_reducible refine Kd.C_alloc ?_ _) | (with_reducible refine Kd.C_drewN ?_ _) | (with_reducible refine Kd.C_drew ?_))); (case side2 => exact (Kd.R_reads' HO156.out).2.1); rintro e w' ⟨rfl, ⟨nd, rfl⟩⟩))
                                          go_meet
                                          case rel => exact ⟨_, (!t157), (by first | rfl | (simp; done) | (simp [*]; done)), H', ⟨by have := HK1.out; have := HJ7.out; have := HK3.out; have := HK4.out; have := HJ31.out; first | omega | exact Nat.le_refl _⟩, ⟨by (with_reducible repeat (first | refine blk_drewN ?_ _ | refine blk_drew ?_ | refine blk_alloc ?_ _)); exact BK146.out⟩, ⟨by repeat (first | (with_reducible first | exact HB.out | apply below_alloc | apply pw_below_drewN | apply below_drew1 | refine below_set ?_ GE146.out) | exact HB.out)⟩⟩
                                      · rw [if_neg c42] at H
                                        have c42b0 : (((rd_T79 l1 x47_3).f1) == (-1)) = false := beq_eq_false_iff_ne.mpr c42
                                        have c42b1 : (((rd_T79 l1 x47_3).f1) != (-1)) = true := bne_iff_ne.mpr c42
                                        (first | rw [c42b0] | (simp only [i64_w, i32_w]; rw [c42b0]) | skip)
                                        have H' := Aside0.mk H
                                        clear H
                                        have hcz50_0 : wc.cell? ⟨gb146, 0, none⟩ = some (.slice A145_0 ((rd_T79 l1 x47_3).f0).length c145_0) := (blk_cell BK146.out 0).trans rfl
                                        have hcz50_1 : wc.cell? ⟨gb146, 1, none⟩ = some (.int .i64 ((rd_T79 l1 x47_3).f1)) := (blk_cell BK146.out 1).trans rfl
                                        have hcz50_2 : wc.cell? ⟨gb146, 2, none⟩ = some (.int .i64 ((rd_T79 l1 x47_3).f2)) := (blk_cell BK146.out 2).trans rfl
                                        have hcz50_3 : wc.cell? ⟨gb146, 3, none⟩ = some (.int .i64 ((rd_T79 l1 x47_3).f3)) := (blk_cell BK146.out 3).trans rfl
                                        have hfz50_0 := blk_frozen BK146.out 0
                                        have hfz50_1 := blk_frozen BK146.out 1
                                        have hfz50_2 := blk_frozen BK146.out 2
                                        have hfz50_3 := blk_frozen BK146.out 3
                                        go_wp2
                                        go_meet
                                        case rel => exact ⟨_, (false), (by first | rfl | (simp; done) | (simp [*]; done)), H', ⟨by have := HK1.out; have := HJ7.out; have := HK3.out; have := HK4.out; have := HJ31.out; first | omega | exact Nat.le_refl _⟩, ⟨by (with_reducible repeat (first | refine blk_drewN ?_ _ | refine blk_drew ?_ | refine blk_alloc ?_ _)); exact BK146.out⟩, ⟨by repeat (first | (with_reducible first | exact HB.out | apply below_alloc | apply pw_below_drewN | apply below_drew1 | refine below_set ?_ GE146.out) | exact HB.out)⟩⟩
                                    case rest =>
                                      clear HC41
                                      try clear c1
                                      try clear p1
                                      try clear q1
                                      try clear hx1
                                      try clear c2
                                      try clear p2
                                      try clear c3
                                      try clear c3b0
                                      try clear c4
                                      try clear c4b0
                                      try clear c5
                                      try clear c5b0
                                      try clear p6
                                      try clear c7
                                      try clear c9
                                      try clear c9b0
                                      try clear c10
                                      try clear c10b0
                                      try clear c11
                                      try clear c11b0
                                      try clear c11b1
                                      try clear c12
                                      try clear c12b0
                                      try clear c12b1
                                      try clear c13
                                      try clear c14
                                      try clear c14b0
                                      try clear p14
                                      try clear q14
                                      try clear hx14
                                      try clear c15
                                      try clear c15b0
                                      try clear c16
                                      try clear c16b0
                                      try clear c19
                                      try clear c19b0
                                      try clear c20
                                      try clear c20b0
                                      try clear c21
                                      try clear c21b0
                                      try clear c22
                                      try clear c23
                                      try clear c23b0
                                      try clear c23b1
                                      try clear c25
                                      try clear c29
                                      try clear c33
                                      try clear c33b0
                                      try clear c33b1
                                      try clear c40
                                      try clear c42
                                      try clear c42b0
                                      try clear c42b1
                                      try clear c43
                                      try clear c43b0
                                      try clear c43b1
                                      try clear hcz18_0
                                      try clear hcz18_1
                                      try clear hcz18_2
                                      try clear hcz18_3
                                      try clear hcz26_0
                                      try clear hcz26_1
                                      try clear hcz26_2
                                      try clear hcz26_3
                                      try clear hcz26_4
                                      try clear hcz30_0
                                      try clear hcz30_1
                                      try clear hcz30_2
                                      try clear hcz30_3
                                      try clear hcz30_4
                                      try clear hcz34_0
                                      try clear hcz34_1
                                      try clear hcz34_2
                                      try clear hcz34_3
                                      try clear hcz36_0
                                      try clear hcz36_1
                                      try clear hcz36_2
                                      try clear hcz36_3
                                      try clear hcz44_0
                                      try clear hcz44_1
                                      try clear hcz44_2
                                      try clear hcz44_3
                                      try clear hcz46_0
                                      try clear hcz46_1
                                      try clear hcz46_2
                                      try clear hcz46_3
                                      try clear hcz50_0
                                      try clear hcz50_1
                                      try clear hcz50_2
                                      try clear hcz50_3
                                      try clear hcz7_0
                                      try clear hcz7_1
                                      try clear hcz7_2
                                      try clear hcz7_3
                                      try clear hfz18_0
                                      try clear hfz18_1
                                      try clear hfz18_2
                                      try clear hfz18_3
                                      try clear hfz26_0
                                      try clear hfz26_1
                                      try clear hfz26_2
                                      try clear hfz26_3
                                      try clear hfz26_4
                                      try clear hfz30_0
                                      try clear hfz30_1
                                      try clear hfz30_2
                                      try clear hfz30_3
                                      try clear hfz30_4
                                      try clear hfz34_0
                                      try clear hfz34_1
                                      try clear hfz34_2
                                      try clear hfz34_3
                                      try clear hfz36_0
                                      try clear hfz36_1
                                      try clear hfz36_2
                                      try clear hfz36_3
                                      try clear hfz44_0
                                      try clear hfz44_1
                                      try clear hfz44_2
                                      try clear hfz44_3
                                      try clear hfz46_0
                                      try clear hfz46_1
                                      try clear hfz46_2
                                      try clear hfz46_3
                                      try clear hfz50_0
                                      try clear hfz50_1
                                      try clear hfz50_2
                                      try clear hfz50_3
                                      try clear hfz7_0
                                      try clear hfz7_1
                                      try clear hfz7_2
                                      try clear hfz7_3
                                      try clear hx143_0
                                      try clear hx143_1
                                      try clear hx143_2
                                      try clear hx143_3
                                      try clear hx145_0
                                      try clear hx145_1
                                      try clear hx145_2
                                      try clear hx145_3
                                      try clear hx147_0
                                      try clear hx147_1
                                      try clear hx147_2
                                      try clear hx147_3
                                      try clear hx147_4
                                      try clear p1
                                      try clear p14
                                      try clear p143
                                      try clear p145
                                      try clear p147
                                      try clear p2
                                      try clear p6
                                      try clear q1
                                      try clear q14
                                      try clear q143
                                      try clear q145
                                      try clear q147
                                      obtain ⟨kq, x93_40, rfl, HA, HJ40, BK146, HB⟩ := hcut
                                      cases kq with
                                      | zero => exact absurd HA.out (by simp [codemasonref_ProgCheck.j5])
                                      | succ kj40 =>
                                        have H := HA.out
                                        clear HA
                                        simp only [codemasonref_ProgCheck.j5] at H
                                        by_cases c51 : x93_40 = true
                                        · subst c51
                                          have H1 : (some 3) = some r := by rw [if_pos rfl] at H; exact H
                                          clear H
                                          have H := H1
                                          clear H1
                                          obtain rfl := Option.some.inj H
                                          go_wp2
                                          go_ret
                                          exact ⟨by first | rfl | (simp [errW_none, errW_some] <;> rfl) | (simp [*, errW_none, errW_some] <;> rfl), by repeat (first | (with_reducible first | exact HB.out | apply below_alloc | apply pw_below_drewN | apply below_drew1 | refine below_set ?_ GE146.out) | exact HB.out)⟩
                                        · replace c51 := Bool.eq_false_iff.mpr c51
                                          subst c51
                                          have H1 : (if ((rd_T79 l1 x47_3).f1) ≥ 0 then ((codemasonref_Inside.f kj40 (l1.length : Int) (([((rd_T79 l1 x47_3).f2), ((rd_T79 l1 x47_3).f3)] : List Int))).bind fun t161 => (if t161 = true then (codemasonref_ProgCheck.l1 kj40 a0 l1 l1 (l1.length : Int) (wrap64 (x47_3 + 1))) else (some 3))) else (codemasonref_ProgCheck.l1 kj40 a0 l1 l1 (l1.length : Int) (wrap64 (x47_3 + 1)))) = some r := by rw [if_neg (show ¬ (false = true) by decide)] at H; exact H
                                          clear H
                                          have H := H1
                                          clear H1
                                          by_cases c52 : ((rd_T79 l1 x47_3).f1) ≥ 0
                                          · rw [if_pos c52] at H
                                            have c52b0 : decide (0 ≤ ((rd_T79 l1 x47_3).f1)) = true := decide_eq_true c52
                                            clear c52
                                            obtain ⟨y158, hy158⟩ : ∃ y_ : List Int, y_ = (([((rd_T79 l1 x47_3).f2), ((rd_T79 l1 x47_3).f3)] : List Int)) := ⟨_, rfl⟩
                                            replace H : ((codemasonref_Inside.f kj40 (l1.length : Int) y158).bind fun t161 => (if t161 = true then (codemasonref_ProgCheck.l1 kj40 a0 l1 l1 (l1.length : Int) (wrap64 (x47_3 + 1))) else (some 3))) = some r := by first | (rw [hy158]; with_reducible exact H) | (have H2_ := (Option.bind_some _ _).symm.trans H; rw [hy158]; with_reducible exact H2_) | (have H2_ := (Option.bind_some _ _).symm.trans H; with_reducible exact H2_) | with_reducible exact H | (rw [hy158]; exact H) | exact H
                                            have Ny158 := Aside0.mk hy158
                                            clear hy158
                                            replace H := Option.bind_eq_some_iff.mp H
                                            obtain ⟨t161, A530, H⟩ := H
                                            replace H : (if t161 = true then (codemasonref_ProgCheck.l1 kj40 a0 l1 l1 (l1.length : Int) (wrap64 (x47_3 + 1))) else (some 3)) = some r := H
                                            have A53 := Aside0.mk A530
                                            clear A530
                                            by_cases c54 : t161 = true
                                            · subst c54
                                              have H1 : (codemasonref_ProgCheck.l1 kj40 a0 l1 l1 (l1.length : Int) (wrap64 (x47_3 + 1))) = some r := by rw [if_pos rfl] at H; exact H
                                              clear H
                                              have H := H1
                                              clear H1
                                              have H' := Aside0.mk H
                                              clear H
                                              have hcz55_0 : wc.cell? ⟨gb146, 0, none⟩ = some (.slice A145_0 ((rd_T79 l1 x47_3).f0).length c145_0) := (blk_cell BK146.out 0).trans rfl
                                              have hcz55_1 : wc.cell? ⟨gb146, 1, none⟩ = some (.int .i64 ((rd_T79 l1 x47_3).f1)) := (blk_cell BK146.out 1).trans rfl
                                              have hcz55_2 : wc.cell? ⟨gb146, 2, none⟩ = some (.int .i64 ((rd_T79 l1 x47_3).f2)) := (blk_cell BK146.out 2).trans rfl
                                              have hcz55_3 : wc.cell? ⟨gb146, 3, none⟩ = some (.int .i64 ((rd_T79 l1 x47_3).f3)) := (blk_cell BK146.out 3).trans rfl
                                              have hfz55_0 := blk_frozen BK146.out 0
                                              have hfz55_1 := blk_frozen BK146.out 1
                                              have hfz55_2 := blk_frozen BK146.out 2
                                              have hfz55_3 := blk_frozen BK146.out 3
                                              go_wp2_with (first | ((with_reducible refine gate_dst (N := 104) rfl ?_); (try (refine gate_guard (by rfl) ?_; dsimp only)); refine Kd.R_lit (Kd.int .i64) _ 3 ?hg (N := 104) ?hd (xs := ([((rd_T79 l1 x47_3).f2), ((rd_T79 l1 x47_3).f3)] : List Int)) (inner := [.int .i64 ((rd_T79 l1 x47_3).f2), .int .i64 ((rd_T79 l1 x47_3).f3)]) (ok := fun _ => True) (okp := fun _ => True) ?hr ?hp (fun _ hk => hk) trivial (Below.refl _ _) (Nat.le_refl _) (by simp) ?_; (case hd => rfl); (case hg => rfl); (case hr => first | (go_simp; done) | (go_simp; rfl)); (case hp => exact (Reps.one (show Kd.M (Kd.int .i64) _ _ _ ((rd_T79 l1 x47_3).f2) [.int .i64 ((rd_T79 l1 x47_3).f2)] from rfl) (Reps.one (show Kd.M (Kd.int .i64) _ _ _ ((rd_T79 l1 x47_3).f3) [.int .i64 ((rd_T79 l1 x47_3).f3)] from rfl) (Reps.none _ _)))); intro v159 w56 ho57 hb hg_ hnew_; clear hg_ hnew_; (first | rw [← Ny158.out] at ho57 | (simp only [Int.reduceToNat] at ho57; rw [← Ny158.out] at ho57)); have n0_ := Aside0.mk (Kd.R_lower ho57 (below_size (by repeat (first | (with_reducible first | exact HB.out | apply below_alloc | apply pw_below_drewN | apply below_drew1 | refine below_set ?_ GE146.out) | exact HB.out)))); have n1_ := Aside0.mk (blk_below (g := gb146) (o := .cells #[.slice A145_0 ((rd_T79 l1 x47_3).f0).length c145_0, .int .i64 ((rd_T79 l1 x47_3).f1), .int .i64 ((rd_T79 l1 x47_3).f2), .int .i64 ((rd_T79 l1 x47_3).f3)] 79 (0, 0)) (by (with_reducible repeat (first | refine blk_drewN ?_ _ | refine blk_drew ?_ | refine blk_alloc ?_ _)); exact BK146.out) hb); have n2_ := Aside0.mk (below_step (by repeat (first | (with_reducible first | exact HB.out | apply below_alloc | apply pw_below_drewN | apply below_drew1 | refine below_set ?_ GE146.out) | exact HB.out)) hb); clear BK146; clear HB; have HO160 := n0_; have BK146 := n1_; have HB := n2_; clear n0_ n1_ n2_; clear hb ho57; obtain ⟨Ao58, co58, eo58⟩ := Kd.R_slice HO160.out; subst eo58) | (go_at_call 52; (with_reducible refine (codemasonref_Inside.calls kj40 (l1.length : Int) _ _ y158 true _ ?side1 ?side2 A53.out).mono ?_); (case side1 => repeat (first | exact (Kd.R_reads' HO160.out).2.2 | (with_reducible refine Kd.C_alloc ?_ _) | (with_reducible refine Kd.C_drewN ?_ _) | (with_reducible refine Kd.C_drew ?_))); (case side2 => exact (Kd.R_reads' HO160.out).2.1); rintro e w' ⟨rfl, ⟨nd, rfl⟩⟩))
                                              go_roundg kj40
                                              case measure => have := HK1.out; have := HJ7.out; have := HK3.out; have := HK4.out; have := HJ31.out; have := HJ40.out; omega
                                              case rel => exact ⟨(wrap64 (x47_3 + 1)), (by first | rfl | (simp; done) | (simp [*]; done)), H', ⟨by have := HK1.out; have := HJ7.out; have := HK3.out; have := HK4.out; have := HJ31.out; have := HJ40.out; omega⟩, ⟨by repeat (first | (with_reducible first | exact HB.out | apply below_alloc | apply pw_below_drewN | apply below_drew1 | refine below_set ?_ GE146.out) | exact HB.out)⟩⟩
                                            · replace c54 := Bool.eq_false_iff.mpr c54
                                              subst c54
                                              have H1 : (some 3) = some r := by rw [if_neg (show ¬ (false = true) by decide)] at H; exact H
                                              clear H
                                              have H := H1
                                              clear H1
                                              obtain rfl := Option.some.inj H
                                              have hcz59_0 : wc.cell? ⟨gb146, 0, none⟩ = some (.slice A145_0 ((rd_T79 l1 x47_3).f0).length c145_0) := (blk_cell BK146.out 0).trans rfl
                                              have hcz59_1 : wc.cell? ⟨gb146, 1, none⟩ = some (.int .i64 ((rd_T79 l1 x47_3).f1)) := (blk_cell BK146.out 1).trans rfl
                                              have hcz59_2 : wc.cell? ⟨gb146, 2, none⟩ = some (.int .i64 ((rd_T79 l1 x47_3).f2)) := (blk_cell BK146.out 2).trans rfl
                                              have hcz59_3 : wc.cell? ⟨gb146, 3, none⟩ = some (.int .i64 ((rd_T79 l1 x47_3).f3)) := (blk_cell BK146.out 3).trans rfl
                                              have hfz59_0 := blk_frozen BK146.out 0
                                              have hfz59_1 := blk_frozen BK146.out 1
                                              have hfz59_2 := blk_frozen BK146.out 2
                                              have hfz59_3 := blk_frozen BK146.out 3
                                              go_wp2_with (first | ((with_reducible refine gate_dst (N := 104) rfl ?_); (try (refine gate_guard (by rfl) ?_; dsimp only)); refine Kd.R_lit (Kd.int .i64) _ 3 ?hg (N := 104) ?hd (xs := ([((rd_T79 l1 x47_3).f2), ((rd_T79 l1 x47_3).f3)] : List Int)) (inner := [.int .i64 ((rd_T79 l1 x47_3).f2), .int .i64 ((rd_T79 l1 x47_3).f3)]) (ok := fun _ => True) (okp := fun _ => True) ?hr ?hp (fun _ hk => hk) trivial (Below.refl _ _) (Nat.le_refl _) (by simp) ?_; (case hd => rfl); (case hg => rfl); (case hr => first | (go_simp; done) | (go_simp; rfl)); (case hp => exact (Reps.one (show Kd.M (Kd.int .i64) _ _ _ ((rd_T79 l1 x47_3).f2) [.int .i64 ((rd_T79 l1 x47_3).f2)] from rfl) (Reps.one (show Kd.M (Kd.int .i64) _ _ _ ((rd_T79 l1 x47_3).f3) [.int .i64 ((rd_T79 l1 x47_3).f3)] from rfl) (Reps.none _ _)))); intro v159 w60 ho61 hb hg_ hnew_; clear hg_ hnew_; (first | rw [← Ny158.out] at ho61 | (simp only [Int.reduceToNat] at ho61; rw [← Ny158.out] at ho61)); have n0_ := Aside0.mk (Kd.R_lower ho61 (below_size (by repeat (first | (with_reducible first | exact HB.out | apply below_alloc | apply pw_below_drewN | apply below_drew1 | refine below_set ?_ GE146.out) | exact HB.out)))); have n1_ := Aside0.mk (blk_below (g := gb146) (o := .cells #[.slice A145_0 ((rd_T79 l1 x47_3).f0).length c145_0, .int .i64 ((rd_T79 l1 x47_3).f1), .int .i64 ((rd_T79 l1 x47_3).f2), .int .i64 ((rd_T79 l1 x47_3).f3)] 79 (0, 0)) (by (with_reducible repeat (first | refine blk_drewN ?_ _ | refine blk_drew ?_ | refine blk_alloc ?_ _)); exact BK146.out) hb); have n2_ := Aside0.mk (below_step (by repeat (first | (with_reducible first | exact HB.out | apply below_alloc | apply pw_below_drewN | apply below_drew1 | refine below_set ?_ GE146.out) | exact HB.out)) hb); clear BK146; clear HB; have HO160 := n0_; have BK146 := n1_; have HB := n2_; clear n0_ n1_ n2_; clear hb ho61; obtain ⟨Ao62, co62, eo62⟩ := Kd.R_slice HO160.out; subst eo62) | (go_at_call 52; (with_reducible refine (codemasonref_Inside.calls kj40 (l1.length : Int) _ _ y158 false _ ?side1 ?side2 A53.out).mono ?_); (case side1 => repeat (first | exact (Kd.R_reads' HO160.out).2.2 | (with_reducible refine Kd.C_alloc ?_ _) | (with_reducible refine Kd.C_drewN ?_ _) | (with_reducible refine Kd.C_drew ?_))); (case side2 => exact (Kd.R_reads' HO160.out).2.1); rintro e w' ⟨rfl, ⟨nd, rfl⟩⟩))
                                              go_ret
                                              exact ⟨by first | rfl | (simp [errW_none, errW_some] <;> rfl) | (simp [*, errW_none, errW_some] <;> rfl), by repeat (first | (with_reducible first | exact HB.out | apply below_alloc | apply pw_below_drewN | apply below_drew1 | refine below_set ?_ GE146.out) | exact HB.out)⟩
                                          · rw [if_neg c52] at H
                                            have c52b0 : decide (0 ≤ ((rd_T79 l1 x47_3).f1)) = false := decide_eq_false c52
                                            clear c52
                                            have H' := Aside0.mk H
                                            clear H
                                            have hcz63_0 : wc.cell? ⟨gb146, 0, none⟩ = some (.slice A145_0 ((rd_T79 l1 x47_3).f0).length c145_0) := (blk_cell BK146.out 0).trans rfl
                                            have hcz63_1 : wc.cell? ⟨gb146, 1, none⟩ = some (.int .i64 ((rd_T79 l1 x47_3).f1)) := (blk_cell BK146.out 1).trans rfl
                                            have hcz63_2 : wc.cell? ⟨gb146, 2, none⟩ = some (.int .i64 ((rd_T79 l1 x47_3).f2)) := (blk_cell BK146.out 2).trans rfl
                                            have hcz63_3 : wc.cell? ⟨gb146, 3, none⟩ = some (.int .i64 ((rd_T79 l1 x47_3).f3)) := (blk_cell BK146.out 3).trans rfl
                                            have hfz63_0 := blk_frozen BK146.out 0
                                            have hfz63_1 := blk_frozen BK146.out 1
                                            have hfz63_2 := blk_frozen BK146.out 2
                                            have hfz63_3 := blk_frozen BK146.out 3
                                            go_wp2
                                            go_roundg kj40
                                            case measure => have := HK1.out; have := HJ7.out; have := HK3.out; have := HK4.out; have := HJ31.out; have := HJ40.out; omega
                                            case rel => exact ⟨(wrap64 (x47_3 + 1)), (by first | rfl | (simp; done) | (simp [*]; done)), H', ⟨by have := HK1.out; have := HJ7.out; have := HK3.out; have := HK4.out; have := HJ31.out; have := HJ40.out; omega⟩, ⟨by repeat (first | (with_reducible first | exact HB.out | apply below_alloc | apply pw_below_drewN | apply below_drew1 | refine below_set ?_ GE146.out) | exact HB.out)⟩⟩
                      · rw [if_neg c16] at H
                        exact absurd H (by simp)
                    · rw [if_neg c15] at H
                      exact absurd H (by simp)
                  · rw [if_neg c14] at H
                    have c14b0 : decide (x47_3 < (l1.length : Int)) = false := decide_eq_false c14
                    clear c14
                    obtain rfl := Option.some.inj H
                    go_wp2
                    go_ret
                    exact ⟨by first | rfl | (simp [errW_none, errW_some] <;> rfl) | (simp [*, errW_none, errW_some] <;> rfl), by repeat (first | (with_reducible first | exact HB.out | apply below_alloc | apply pw_below_drewN | apply below_drew1) | exact HB.out)⟩

end Go.Proofs.Ytaicamjpcnhjcaa.PA
