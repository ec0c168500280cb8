/- Contracts, by a program over the translation: the machine's call of a function comes to what its plain Lean function 'f' says. -/
import Derived.Test.YtaicamjpcnhjcaaPA0
namespace Go.Proofs.Ytaicamjpcnhjcaa.PA
open Go.RowKit Go.Proofs.YtaicamjpcnhjcaaW.PrintWords Go.Proofs.YtaicamjpcnhjcaaW.PrintLast Go.Proofs.YtaicamjpcnhjcaaW.PrintMore
attribute [local go_sem] max2_int min2_int max_two min_two max_three min_three max_four min_four   -- for this text's walks alone
set_option linter.unusedVariables false
set_option linter.unusedSimpArgs false

/-! ### codemasonref_Tree: function 109 -/
mutual
def codemasonref_Tree.l0 : Nat → List (S159) → Int → Option (Bool)
  | 0, _, _ => none
  | k + 1, x0, x3 => if x3 < (x0.length : Int) then (codemasonref_Tree.l1 k x0 x3 0 x0 (x0.length : Int) 0) else (some true)
def codemasonref_Tree.l1 : Nat → List (S159) → Int → Int → List (S159) → Int → Int → Option (Bool)
  | 0, _, _, _, _, _, _ => none
  | k + 1, x0, x3, x4, x13, x14, x15 => if x15 < x14 then (if 0 ≤ x15 then (if x15 < (x13.length : Int) then (if ((rd_T159 x13 x15).f0) ≥ 3 then (codemasonref_Tree.j2 k x0 x3 x4 x13 x14 x15 (((rd_T159 x13 x15).f1) == x3) ((rd_T159 x13 x15).f0) ((rd_T159 x13 x15).f1) ((rd_T159 x13 x15).f2) ((rd_T159 x13 x15).f3)) else (codemasonref_Tree.j2 k x0 x3 x4 x13 x14 x15 false ((rd_T159 x13 x15).f0) ((rd_T159 x13 x15).f1) ((rd_T159 x13 x15).f2) ((rd_T159 x13 x15).f3))) else (none)) else (none)) else (if x3 < (wrap64 ((x0.length : Int) - 1)) then (if x4 = 1 then (if x3 = (wrap64 ((x0.length : Int) - 1)) then (if x4 = 0 then (codemasonref_Tree.l0 k x0 (wrap64 (x3 + 1))) else (some false)) else (codemasonref_Tree.l0 k x0 (wrap64 (x3 + 1)))) else (some false)) else (if x3 = (wrap64 ((x0.length : Int) - 1)) then (if x4 = 0 then (codemasonref_Tree.l0 k x0 (wrap64 (x3 + 1))) else (some false)) else (codemasonref_Tree.l0 k x0 (wrap64 (x3 + 1)))))
def codemasonref_Tree.j2 : Nat → List (S159) → Int → Int → List (S159) → Int → Int → Bool → Int → Int → Int → Int → Option (Bool)
  | 0, _, _, _, _, _, _, _, _, _, _, _ => none
  | k + 1, x0, x3, x4, x13, x14, x15, x27, x598000, x598001, x598002, x598003 => if x27 = true then (if x598000 ≥ 3 then (if x598002 = x3 then (codemasonref_Tree.l1 k x0 x3 (wrap64 ((wrap64 (x4 + 1)) + 1)) x13 x14 (wrap64 (x15 + 1))) else (codemasonref_Tree.l1 k x0 x3 (wrap64 (x4 + 1)) x13 x14 (wrap64 (x15 + 1)))) else (codemasonref_Tree.l1 k x0 x3 (wrap64 (x4 + 1)) x13 x14 (wrap64 (x15 + 1)))) else (if x598000 ≥ 3 then (if x598002 = x3 then (codemasonref_Tree.l1 k x0 x3 (wrap64 (x4 + 1)) x13 x14 (wrap64 (x15 + 1))) else (codemasonref_Tree.l1 k x0 x3 x4 x13 x14 (wrap64 (x15 + 1)))) else (codemasonref_Tree.l1 k x0 x3 x4 x13 x14 (wrap64 (x15 + 1))))
end
def codemasonref_Tree.f (k : Nat) (l0 : List (S159)) : Option (Bool) := codemasonref_Tree.l0 k l0 0
theorem codemasonref_Tree.mono_l : ∀ k, (∀ y0 y1, LeO (codemasonref_Tree.l0 k y0 y1) (codemasonref_Tree.l0 (k + 1) y0 y1)) ∧ (∀ y0 y1 y2 y3 y4 y5, LeO (codemasonref_Tree.l1 k y0 y1 y2 y3 y4 y5) (codemasonref_Tree.l1 (k + 1) y0 y1 y2 y3 y4 y5)) ∧ (∀ y0 y1 y2 y3 y4 y5 y6 y7 y8 y9 y10, LeO (codemasonref_Tree.j2 k y0 y1 y2 y3 y4 y5 y6 y7 y8 y9 y10) (codemasonref_Tree.j2 (k + 1) y0 y1 y2 y3 y4 y5 y6 y7 y8 y9 y10))
  | 0 => ⟨fun _ _ r h => by simp [codemasonref_Tree.l0] at h, fun _ _ _ _ _ _ r h => by simp [codemasonref_Tree.l1] at h, fun _ _ _ _ _ _ _ _ _ _ _ r h => by simp [codemasonref_Tree.j2] at h⟩
  | k + 1 => by
    obtain ⟨ih0, ih1, ih2⟩ := codemasonref_Tree.mono_l k
    refine ⟨?_, ?_, ?_⟩
    · intro y0 y1
      unfold codemasonref_Tree.l0
      repeat' first
      | (with_reducible exact ih0 _ _)
      | (with_reducible exact ih1 _ _ _ _ _ _)
      | (with_reducible exact ih2 _ _ _ _ _ _ _ _ _ _ _)
      | (with_reducible exact LeO.refl _)
      | (with_reducible exact LeO.none _)
      | (with_reducible refine LeO.ite ?_ ?_)
      | (with_reducible refine LeO.bind ?_ (fun _ => ?_))
      | exact ih0 _ _
      | exact ih1 _ _ _ _ _ _
      | exact ih2 _ _ _ _ _ _ _ _ _ _ _
      | exact LeO.none _
      | refine LeO.ite ?_ ?_
      | refine LeO.bind ?_ (fun _ => ?_)
    · intro y0 y1 y2 y3 y4 y5
      unfold codemasonref_Tree.l1
      repeat' first
      | (with_reducible exact ih0 _ _)
      | (with_reducible exact ih1 _ _ _ _ _ _)
      | (with_reducible exact ih2 _ _ _ _ _ _ _ _ _ _ _)
      | (with_reducible exact LeO.refl _)
      | (with_reducible exact LeO.none _)
      | (with_reducible refine LeO.ite ?_ ?_)
      | (with_reducible refine LeO.bind ?_ (fun _ => ?_))
      | exact ih0 _ _
      | exact ih1 _ _ _ _ _ _
      | exact ih2 _ _ _ _ _ _ _ _ _ _ _
      | exact LeO.none _
      | refine LeO.ite ?_ ?_
      | refine LeO.bind ?_ (fun _ => ?_)
    · intro y0 y1 y2 y3 y4 y5 y6 y7 y8 y9 y10
      unfold codemasonref_Tree.j2
      repeat' first
      | (with_reducible exact ih0 _ _)
      | (with_reducible exact ih1 _ _ _ _ _ _)
      | (with_reducible exact ih2 _ _ _ _ _ _ _ _ _ _ _)
      | (with_reducible exact LeO.refl _)
      | (with_reducible exact LeO.none _)
      | (with_reducible refine LeO.ite ?_ ?_)
      | (with_reducible refine LeO.bind ?_ (fun _ => ?_))
      | exact ih0 _ _
      | exact ih1 _ _ _ _ _ _
      | exact ih2 _ _ _ _ _ _ _ _ _ _ _
      | exact LeO.none _
      | refine LeO.ite ?_ ?_
      | refine LeO.bind ?_ (fun _ => ?_)
theorem codemasonref_Tree.mono : ∀ a0 k, LeO (codemasonref_Tree.f k a0) (codemasonref_Tree.f (k + 1) a0) := by
  intro a0 k
  obtain ⟨ih0, ih1, ih2⟩ := codemasonref_Tree.mono_l k
  unfold codemasonref_Tree.f
  repeat' first
      | (with_reducible exact ih0 _ _)
      | (with_reducible exact ih1 _ _ _ _ _ _)
      | (with_reducible exact ih2 _ _ _ _ _ _ _ _ _ _ _)
      | (with_reducible exact LeO.refl _)
      | (with_reducible exact LeO.none _)
      | (with_reducible refine LeO.ite ?_ ?_)
      | (with_reducible refine LeO.bind ?_ (fun _ => ?_))
      | exact ih0 _ _
      | exact ih1 _ _ _ _ _ _
      | exact ih2 _ _ _ _ _ _ _ _ _ _ _
      | exact LeO.none _
      | refine LeO.ite ?_ ?_
      | refine LeO.bind ?_ (fun _ => ?_)
set_option maxHeartbeats 8000000 in
set_option maxRecDepth 100000 in
theorem codemasonref_Tree.calls (k : Nat) (A0 : Option Addr) (c0 : Nat) (l0 : List (S159)) (r : Bool) (w : World) (hr0 : Kd.C k159 w A0 l0.length l0) (hc0 : l0.length ≤ c0) (h : codemasonref_Tree.f k l0 = some r) :
    Calls Try.prog 109 #[.slice A0 l0.length c0] w fun e w' => e = .returned (.bool r) ∧ Below w.heap.size w w' := by
  have hu159 := Try.underlying159
  have HR0 := Aside0.mk hr0
  have HC0 := Aside0.mk hc0
  clear hr0 hc0
  have HB := Aside0.mk (Below.refl w.heap.size w)
  have H : (codemasonref_Tree.l0 k l0 0) = some r := h
  clear h
  have H' := Aside0.mk H
  clear H
  go_enter Try.func109, Try.ntmps109
  go_wp2
  go_loopg [3] k (fun kq v3 w' => ∃ (x3_1 : Int), v3 = .int .i64 x3_1 ∧ Aside0 (codemasonref_Tree.l0 kq l0 x3_1 = some r) ∧ Aside0 (kq ≤ k) ∧ Aside0 (Below w.heap.size w w'))
  case atStart => exact ⟨(0), (by first | rfl | (simp; done) | (simp [*]; done)), H', ⟨Nat.le_refl _⟩, ⟨by repeat (first | (with_reducible first | exact HB.out | apply below_alloc | apply pw_below_drewN | apply below_drew1) | exact HB.out)⟩⟩
  case round =>
    clear H'
    try clear c1
    obtain ⟨x3_1, rfl, HA, HK1, HB⟩ := hrel
    cases gk with
    | zero => exact absurd HA.out (by simp [codemasonref_Tree.l0])
    | succ k1 =>
      have H := HA.out
      clear HA
      simp only [codemasonref_Tree.l0] at H
      by_cases c2 : x3_1 < (l0.length : Int)
      · rw [if_pos c2] at H
        have c2b0 : decide (x3_1 < (l0.length : Int)) = true := decide_eq_true c2
        clear c2
        have H' := Aside0.mk H
        clear H
        go_wp2
        go_loopg [4, 15] k1 (fun kq v4 v15 w' => ∃ (x4_2 : Int) (x15_2 : Int), v4 = .int .i64 x4_2 ∧ v15 = .int .i64 x15_2 ∧ Aside0 (codemasonref_Tree.l1 kq l0 x3_1 x4_2 l0 (l0.length : Int) x15_2 = some r) ∧ Aside0 (kq ≤ k1) ∧ Aside0 (Below w.heap.size w w'))
        case atStart => exact ⟨(0), (0), (by first | rfl | (simp; done) | (simp [*]; done)), (by first | rfl | (simp; done) | (simp [*]; done)), H', ⟨Nat.le_refl _⟩, ⟨by repeat (first | (with_reducible first | exact HB.out | apply below_alloc | apply pw_below_drewN | apply below_drew1) | exact HB.out)⟩⟩
        case round =>
          clear H'
          try clear c1
          try clear c2
          try clear c2b0
          try clear p2
          obtain ⟨x4_2, x15_2, rfl, rfl, HA, HK2, HB⟩ := hrel
          cases gk with
          | zero => exact absurd HA.out (by simp [codemasonref_Tree.l1])
          | succ k2 =>
            have H := HA.out
            clear HA
            simp only [codemasonref_Tree.l1] at H
            by_cases c3 : x15_2 < (l0.length : Int)
            · rw [if_pos c3] at H
              have c3b0 : decide (x15_2 < (l0.length : Int)) = true := decide_eq_true c3
              clear c3
              by_cases c4 : 0 ≤ x15_2
              · rw [if_pos c4] at H
                have c4b0 : decide (0 ≤ x15_2) = true := decide_eq_true c4
                clear c4
                by_cases c5 : x15_2 < (l0.length : Int)
                · rw [if_pos c5] at H
                  have c5b0 : decide (x15_2 < (l0.length : Int)) = true := decide_eq_true c5
                  clear c5
                  have HC6 := Aside0.mk H
                  clear H
                  have p596 : 0 ≤ (x15_2 : Int) := of_decide_eq_true (by first | (with_reducible assumption) | assumption)
                  have q596 : x15_2 < (l0.length : Int) := of_decide_eq_true (by first | (with_reducible assumption) | assumption)
                  obtain ⟨ad596, e596, hx596_0, hx596_1, hx596_2, hx596_3⟩ := at_T159 HR0.out x15_2 p596 q596
                  cases e596
                  replace hx596_0 := (HB.out.cell (World.block_lt_of_cell? w _ hx596_0)).trans hx596_0
                  replace hx596_1 := (HB.out.cell (World.block_lt_of_cell? w _ hx596_1)).trans hx596_1
                  replace hx596_2 := (HB.out.cell (World.block_lt_of_cell? w _ hx596_2)).trans hx596_2
                  replace hx596_3 := (HB.out.cell (World.block_lt_of_cell? w _ hx596_3)).trans hx596_3
                  replace p596 := eq_true p596
                  replace q596 := eq_true q596
                  go_upto_region 8 with (first | ((with_reducible refine gate_dst (N := 6) rfl ?_); (try (refine gate_guard (by rfl) ?_; dsimp only)); refine box_event ?hg (N := 6) ?hd (cs := #[.int .i64 0, .int .i64 0, .int .i64 0, .int .i64 0]) (t := 159) ?hr ?_; (case hd => rfl); (case hg => rfl); (case hr => first | (go_simp; done) | (go_simp; rfl)); intro gb597 hg w7 hbox hb; have n0_ := Aside0.mk (below_step (by repeat (first | (with_reducible first | exact HB.out | apply below_alloc | apply pw_below_drewN | apply below_drew1) | exact HB.out)) hb); have n1_ := Aside0.mk (hbox); have n2_ := Aside0.mk ((by rw [hg]; exact (below_size (by repeat (first | (with_reducible first | exact HB.out | apply below_alloc | apply pw_below_drewN | apply below_drew1) | exact HB.out))) : w.heap.size ≤ gb597)); have n3_ := Aside0.mk ((by rw [hg]; exact (below_size (by repeat (first | (with_reducible first | exact HB.out | apply below_alloc | apply pw_below_drewN | apply below_drew1) | exact HB.out))) : w.heap.size ≤ gb597)); clear HB; have HB := n0_; have BK597 := n1_; have GW597 := n2_; have GE597 := n3_; clear n0_ n1_ n2_ n3_; clear hb hbox hg; have hcz8_0 : w7.cell? ⟨gb597, 0, none⟩ = some (.int .i64 0) := (blk_cell BK597.out 0).trans rfl; have hcz8_1 : w7.cell? ⟨gb597, 1, none⟩ = some (.int .i64 0) := (blk_cell BK597.out 1).trans rfl; have hcz8_2 : w7.cell? ⟨gb597, 2, none⟩ = some (.int .i64 0) := (blk_cell BK597.out 2).trans rfl; have hcz8_3 : w7.cell? ⟨gb597, 3, none⟩ = some (.int .i64 0) := (blk_cell BK597.out 3).trans rfl; have hfz8_0 := blk_frozen BK597.out 0; have hfz8_1 := blk_frozen BK597.out 1; have hfz8_2 := blk_frozen BK597.out 2; have hfz8_3 := blk_frozen BK597.out 3))
                  (try simp only [Act.put, List.setIfInBounds_toArray, List.set_cons_zero, List.set_cons_succ])
                  go_cut [27] (fun v27 wc => ∃ (kq : Nat) (x27_5 : Bool), v27 = .bool x27_5 ∧ Aside0 (codemasonref_Tree.j2 kq l0 x3_1 x4_2 l0 (l0.length : Int) x15_2 x27_5 ((rd_T159 l0 x15_2).f0) ((rd_T159 l0 x15_2).f1) ((rd_T159 l0 x15_2).f2) ((rd_T159 l0 x15_2).f3) = some r) ∧ Aside0 (kq ≤ k2) ∧ Aside0 (wc.heap[gb597]? = some (.cells #[.int .i64 ((rd_T159 l0 x15_2).f0), .int .i64 ((rd_T159 l0 x15_2).f1), .int .i64 ((rd_T159 l0 x15_2).f2), .int .i64 ((rd_T159 l0 x15_2).f3)] 159 (0, 0))) ∧ Aside0 (Below w.heap.size w wc))
                  case first =>
                    have H := HC6.out
                    clear HC6
                    by_cases c9 : ((rd_T159 l0 x15_2).f0) ≥ 3
                    · rw [if_pos c9] at H
                      have c9b0 : decide (3 ≤ ((rd_T159 l0 x15_2).f0)) = true := decide_eq_true c9
                      clear c9
                      (first | rw [c9b0] | (simp only [i64_w, i32_w]; rw [c9b0]) | skip)
                      have H' := Aside0.mk H
                      clear H
                      have hcz10_0 : w7.cell? ⟨gb597, 0, none⟩ = some (.int .i64 0) := (blk_cell BK597.out 0).trans rfl
                      have hcz10_1 : w7.cell? ⟨gb597, 1, none⟩ = some (.int .i64 0) := (blk_cell BK597.out 1).trans rfl
                      have hcz10_2 : w7.cell? ⟨gb597, 2, none⟩ = some (.int .i64 0) := (blk_cell BK597.out 2).trans rfl
                      have hcz10_3 : w7.cell? ⟨gb597, 3, none⟩ = some (.int .i64 0) := (blk_cell BK597.out 3).trans rfl
                      have hfz10_0 := blk_frozen BK597.out 0
                      have hfz10_1 := blk_frozen BK597.out 1
                      have hfz10_2 := blk_frozen BK597.out 2
                      have hfz10_3 := blk_frozen BK597.out 3
                      go_wp2
                      go_meet
                      case rel => exact ⟨_, ((((rd_T159 l0 x15_2).f1) == x3_1)), (by first | rfl | (simp; done) | (simp [*]; done)), H', ⟨by have := HK1.out; have := HK2.out; first | omega | exact Nat.le_refl _⟩, ⟨by (with_reducible repeat (first | refine blk_drewN ?_ _ | refine blk_drew ?_ | refine blk_alloc ?_ _)); refine blk_put (cs := #[.int .i64 ((rd_T159 l0 x15_2).f0), .int .i64 ((rd_T159 l0 x15_2).f1), .int .i64 ((rd_T159 l0 x15_2).f2), .int .i64 0]) ?_ 3 _ rfl; (with_reducible repeat (first | refine blk_drewN ?_ _ | refine blk_drew ?_ | refine blk_alloc ?_ _)); refine blk_put (cs := #[.int .i64 ((rd_T159 l0 x15_2).f0), .int .i64 ((rd_T159 l0 x15_2).f1), .int .i64 0, .int .i64 0]) ?_ 2 _ rfl; (with_reducible repeat (first | refine blk_drewN ?_ _ | refine blk_drew ?_ | refine blk_alloc ?_ _)); refine blk_put (cs := #[.int .i64 ((rd_T159 l0 x15_2).f0), .int .i64 0, .int .i64 0, .int .i64 0]) ?_ 1 _ rfl; (with_reducible repeat (first | refine blk_drewN ?_ _ | refine blk_drew ?_ | refine blk_alloc ?_ _)); refine blk_put (cs := #[.int .i64 0, .int .i64 0, .int .i64 0, .int .i64 0]) ?_ 0 _ rfl; (with_reducible repeat (first | refine blk_drewN ?_ _ | refine blk_drew ?_ | refine blk_alloc ?_ _)); exact BK597.out⟩, ⟨by repeat (first | (with_reducible first | exact HB.out | apply below_alloc | apply pw_below_drewN | apply below_drew1 | refine below_set ?_ GE597.out) | exact HB.out)⟩⟩
                    · rw [if_neg c9] at H
                      have c9b0 : decide (3 ≤ ((rd_T159 l0 x15_2).f0)) = false := decide_eq_false c9
                      clear c9
                      (first | rw [c9b0] | (simp only [i64_w, i32_w]; rw [c9b0]) | skip)
                      have H' := Aside0.mk H
                      clear H
                      have hcz11_0 : w7.cell? ⟨gb597, 0, none⟩ = some (.int .i64 0) := (blk_cell BK597.out 0).trans rfl
                      have hcz11_1 : w7.cell? ⟨gb597, 1, none⟩ = some (.int .i64 0) := (blk_cell BK597.out 1).trans rfl
                      have hcz11_2 : w7.cell? ⟨gb597, 2, none⟩ = some (.int .i64 0) := (blk_cell BK597.out 2).trans rfl
                      have hcz11_3 : w7.cell? ⟨gb597, 3, none⟩ = some (.int .i64 0) := (blk_cell BK597.out 3).trans rfl
                      have hfz11_0 := blk_frozen BK597.out 0
                      have hfz11_1 := blk_frozen BK597.out 1
                      have hfz11_2 := blk_frozen BK597.out 2
                      have hfz11_3 := blk_frozen BK597.out 3
                      go_wp2
                      go_meet
                      case rel => exact ⟨_, (false), (by first | rfl | (simp; done) | (simp [*]; done)), H', ⟨by have := HK1.out; have := HK2.out; first | omega | exact Nat.le_refl _⟩, ⟨by (with_reducible repeat (first | refine blk_drewN ?_ _ | refine blk_drew ?_ | refine blk_alloc ?_ _)); refine blk_put (cs := #[.int .i64 ((rd_T159 l0 x15_2).f0), .int .i64 ((rd_T159 l0 x15_2).f1), .int .i64 ((rd_T159 l0 x15_2).f2), .int .i64 0]) ?_ 3 _ rfl; (with_reducible repeat (first | refine blk_drewN ?_ _ | refine blk_drew ?_ | refine blk_alloc ?_ _)); refine blk_put (cs := #[.int .i64 ((rd_T159 l0 x15_2).f0), .int .i64 ((rd_T159 l0 x15_2).f1), .int .i64 0, .int .i64 0]) ?_ 2 _ rfl; (with_reducible repeat (first | refine blk_drewN ?_ _ | refine blk_drew ?_ | refine blk_alloc ?_ _)); refine blk_put (cs := #[.int .i64 ((rd_T159 l0 x15_2).f0), .int .i64 0, .int .i64 0, .int .i64 0]) ?_ 1 _ rfl; (with_reducible repeat (first | refine blk_drewN ?_ _ | refine blk_drew ?_ | refine blk_alloc ?_ _)); refine blk_put (cs := #[.int .i64 0, .int .i64 0, .int .i64 0, .int .i64 0]) ?_ 0 _ rfl; (with_reducible repeat (first | refine blk_drewN ?_ _ | refine blk_drew ?_ | refine blk_alloc ?_ _)); exact BK597.out⟩, ⟨by repeat (first | (with_reducible first | exact HB.out | apply below_alloc | apply pw_below_drewN | apply below_drew1 | refine below_set ?_ GE597.out) | exact HB.out)⟩⟩
                  case rest =>
                    clear HC6
                    try clear c1
                    try clear c2
                    try clear c2b0
                    try clear p2
                    try clear c3
                    try clear c3b0
                    try clear c4
                    try clear c4b0
                    try clear c5
                    try clear c5b0
                    try clear p5
                    try clear q5
                    try clear hx5
                    try clear c9
                    try clear c9b0
                    try clear c10
                    try clear hcz10_0
                    try clear hcz10_1
                    try clear hcz10_2
                    try clear hcz10_3
                    try clear hcz11_0
                    try clear hcz11_1
                    try clear hcz11_2
                    try clear hcz11_3
                    try clear hcz8_0
                    try clear hcz8_1
                    try clear hcz8_2
                    try clear hcz8_3
                    try clear hfz10_0
                    try clear hfz10_1
                    try clear hfz10_2
                    try clear hfz10_3
                    try clear hfz11_0
                    try clear hfz11_1
                    try clear hfz11_2
                    try clear hfz11_3
                    try clear hfz8_0
                    try clear hfz8_1
                    try clear hfz8_2
                    try clear hfz8_3
                    try clear hx596_0
                    try clear hx596_1
                    try clear hx596_2
                    try clear hx596_3
                    try clear p2
                    try clear p596
                    try clear q596
                    obtain ⟨kq, x27_5, rfl, HA, HJ5, BK597, HB⟩ := hcut
                    cases kq with
                    | zero => exact absurd HA.out (by simp [codemasonref_Tree.j2])
                    | succ kj5 =>
                      have H := HA.out
                      clear HA
                      simp only [codemasonref_Tree.j2] at H
                      by_cases c12 : x27_5 = true
                      · subst c12
                        have H1 : (if ((rd_T159 l0 x15_2).f0) ≥ 3 then (if ((rd_T159 l0 x15_2).f2) = x3_1 then (codemasonref_Tree.l1 kj5 l0 x3_1 (wrap64 ((wrap64 (x4_2 + 1)) + 1)) l0 (l0.length : Int) (wrap64 (x15_2 + 1))) else (codemasonref_Tree.l1 kj5 l0 x3_1 (wrap64 (x4_2 + 1)) l0 (l0.length : Int) (wrap64 (x15_2 + 1)))) else (codemasonref_Tree.l1 kj5 l0 x3_1 (wrap64 (x4_2 + 1)) l0 (l0.length : Int) (wrap64 (x15_2 + 1)))) = some r := by rw [if_pos rfl] at H; exact H
                        clear H
                        have H := H1
                        clear H1
                        by_cases c13 : ((rd_T159 l0 x15_2).f0) ≥ 3
                        · rw [if_pos c13] at H
                          have c13b0 : decide (3 ≤ ((rd_T159 l0 x15_2).f0)) = true := decide_eq_true c13
                          clear c13
                          by_cases c14 : ((rd_T159 l0 x15_2).f2) = x3_1
                          · rw [if_pos c14] at H
                            have c14b0 : (((rd_T159 l0 x15_2).f2) == x3_1) = true := beq_iff_eq.mpr c14
                            have c14b1 : (((rd_T159 l0 x15_2).f2) != x3_1) = false := bne_eq_false_iff_eq.mpr c14
                            clear c14
                            have H' := Aside0.mk H
                            clear H
                            have hcz15_0 : wc.cell? ⟨gb597, 0, none⟩ = some (.int .i64 ((rd_T159 l0 x15_2).f0)) := (blk_cell BK597.out 0).trans rfl
                            have hcz15_1 : wc.cell? ⟨gb597, 1, none⟩ = some (.int .i64 ((rd_T159 l0 x15_2).f1)) := (blk_cell BK597.out 1).trans rfl
                            have hcz15_2 : wc.cell? ⟨gb597, 2, none⟩ = some (.int .i64 ((rd_T159 l0 x15_2).f2)) := (blk_cell BK597.out 2).trans rfl
                            have hcz15_3 : wc.cell? ⟨gb597, 3, none⟩ = some (.int .i64 ((rd_T159 l0 x15_2).f3)) := (blk_cell BK597.out 3).trans rfl
                            have hfz15_0 := blk_frozen BK597.out 0
                            have hfz15_1 := blk_frozen BK597.out 1
                            have hfz15_2 := blk_frozen BK597.out 2
                            have hfz15_3 := blk_frozen BK597.out 3
                            go_wp2
                            go_roundg kj5
                            case measure => have := HK1.out; have := HK2.out; have := HJ5.out; omega
                            case rel => exact ⟨(wrap64 ((wrap64 (x4_2 + 1)) + 1)), (wrap64 (x15_2 + 1)), (by first | rfl | (simp; done) | (simp [*]; done)), (by first | rfl | (simp; done) | (simp [*]; done)), H', ⟨by have := HK1.out; have := HK2.out; have := HJ5.out; omega⟩, ⟨by repeat (first | (with_reducible first | exact HB.out | apply below_alloc | apply pw_below_drewN | apply below_drew1 | refine below_set ?_ GE597.out) | exact HB.out)⟩⟩
                          · rw [if_neg c14] at H
                            have c14b0 : (((rd_T159 l0 x15_2).f2) == x3_1) = false := beq_eq_false_iff_ne.mpr c14
                            have c14b1 : (((rd_T159 l0 x15_2).f2) != x3_1) = true := bne_iff_ne.mpr c14
                            have H' := Aside0.mk H
                            clear H
                            have hcz16_0 : wc.cell? ⟨gb597, 0, none⟩ = some (.int .i64 ((rd_T159 l0 x15_2).f0)) := (blk_cell BK597.out 0).trans rfl
                            have hcz16_1 : wc.cell? ⟨gb597, 1, none⟩ = some (.int .i64 ((rd_T159 l0 x15_2).f1)) := (blk_cell BK597.out 1).trans rfl
                            have hcz16_2 : wc.cell? ⟨gb597, 2, none⟩ = some (.int .i64 ((rd_T159 l0 x15_2).f2)) := (blk_cell BK597.out 2).trans rfl
                            have hcz16_3 : wc.cell? ⟨gb597, 3, none⟩ = some (.int .i64 ((rd_T159 l0 x15_2).f3)) := (blk_cell BK597.out 3).trans rfl
                            have hfz16_0 := blk_frozen BK597.out 0
                            have hfz16_1 := blk_frozen BK597.out 1
                            have hfz16_2 := blk_frozen BK597.out 2
                            have hfz16_3 := blk_frozen BK597.out 3
                            go_wp2
                            go_roundg kj5
                            case measure => have := HK1.out; have := HK2.out; have := HJ5.out; omega
                            case rel => exact ⟨(wrap64 (x4_2 + 1)), (wrap64 (x15_2 + 1)), (by first | rfl | (simp; done) | (simp [*]; done)), (by first | rfl | (simp; done) | (simp [*]; done)), H', ⟨by have := HK1.out; have := HK2.out; have := HJ5.out; omega⟩, ⟨by repeat (first | (with_reducible first | exact HB.out | apply below_alloc | apply pw_below_drewN | apply below_drew1 | refine below_set ?_ GE597.out) | exact HB.out)⟩⟩
                        · rw [if_neg c13] at H
                          have c13b0 : decide (3 ≤ ((rd_T159 l0 x15_2).f0)) = false := decide_eq_false c13
                          clear c13
                          have H' := Aside0.mk H
                          clear H
                          have hcz17_0 : wc.cell? ⟨gb597, 0, none⟩ = some (.int .i64 ((rd_T159 l0 x15_2).f0)) := (blk_cell BK597.out 0).trans rfl
                          have hcz17_1 : wc.cell? ⟨gb597, 1, none⟩ = some (.int .i64 ((rd_T159 l0 x15_2).f1)) := (blk_cell BK597.out 1).trans rfl
                          have hcz17_2 : wc.cell? ⟨gb597, 2, none⟩ = some (.int .i64 ((rd_T159 l0 x15_2).f2)) := (blk_cell BK597.out 2).trans rfl
                          have hcz17_3 : wc.cell? ⟨gb597, 3, none⟩ = some (.int .i64 ((rd_T159 l0 x15_2).f3)) := (blk_cell BK597.out 3).trans rfl
                          have hfz17_0 := blk_frozen BK597.out 0
                          have hfz17_1 := blk_frozen BK597.out 1
                          have hfz17_2 := blk_frozen BK597.out 2
                          have hfz17_3 := blk_frozen BK597.out 3
                          go_wp2
                          go_roundg kj5
                          case measure => have := HK1.out; have := HK2.out; have := HJ5.out; omega
                          case rel => exact ⟨(wrap64 (x4_2 + 1)), (wrap64 (x15_2 + 1)), (by first | rfl | (simp; done) | (simp [*]; done)), (by first | rfl | (simp; done) | (simp [*]; done)), H', ⟨by have := HK1.out; have := HK2.out; have := HJ5.out; omega⟩, ⟨by repeat (first | (with_reducible first | exact HB.out | apply below_alloc | apply pw_below_drewN | apply below_drew1 | refine below_set ?_ GE597.out) | exact HB.out)⟩⟩
                      · replace c12 := Bool.eq_false_iff.mpr c12
                        subst c12
                        have H1 : (if ((rd_T159 l0 x15_2).f0) ≥ 3 then (if ((rd_T159 l0 x15_2).f2) = x3_1 then (codemasonref_Tree.l1 kj5 l0 x3_1 (wrap64 (x4_2 + 1)) l0 (l0.length : Int) (wrap64 (x15_2 + 1))) else (codemasonref_Tree.l1 kj5 l0 x3_1 x4_2 l0 (l0.length : Int) (wrap64 (x15_2 + 1)))) else (codemasonref_Tree.l1 kj5 l0 x3_1 x4_2 l0 (l0.length : Int) (wrap64 (x15_2 + 1)))) = some r := by rw [if_neg (show ¬ (false = true) by decide)] at H; exact H
                        clear H
                        have H := H1
                        clear H1
                        by_cases c18 : ((rd_T159 l0 x15_2).f0) ≥ 3
                        · rw [if_pos c18] at H
                          have c18b0 : decide (3 ≤ ((rd_T159 l0 x15_2).f0)) = true := decide_eq_true c18
                          clear c18
                          by_cases c19 : ((rd_T159 l0 x15_2).f2) = x3_1
                          · rw [if_pos c19] at H
                            have c19b0 : (((rd_T159 l0 x15_2).f2) == x3_1) = true := beq_iff_eq.mpr c19
                            have c19b1 : (((rd_T159 l0 x15_2).f2) != x3_1) = false := bne_eq_false_iff_eq.mpr c19
                            clear c19
                            have H' := Aside0.mk H
                            clear H
                            have hcz20_0 : wc.cell? ⟨gb597, 0, none⟩ = some (.int .i64 ((rd_T159 l0 x15_2).f0)) := (blk_cell BK597.out 0).trans rfl
                            have hcz20_1 : wc.cell? ⟨gb597, 1, none⟩ = some (.int .i64 ((rd_T159 l0 x15_2).f1)) := (blk_cell BK597.out 1).trans rfl
                            have hcz20_2 : wc.cell? ⟨gb597, 2, none⟩ = some (.int .i64 ((rd_T159 l0 x15_2).f2)) := (blk_cell BK597.out 2).trans rfl
                            have hcz20_3 : wc.cell? ⟨gb597, 3, none⟩ = some (.int .i64 ((rd_T159 l0 x15_2).f3)) := (blk_cell BK597.out 3).trans rfl
                            have hfz20_0 := blk_frozen BK597.out 0
                            have hfz20_1 := blk_frozen BK597.out 1
                            have hfz20_2 := blk_frozen BK597.out 2
                            have hfz20_3 := blk_frozen BK597.out 3
                            go_wp2
                            go_roundg kj5
                            case measure => have := HK1.out; have := HK2.out; have := HJ5.out; omega
                            case rel => exact ⟨(wrap64 (x4_2 + 1)), (wrap64 (x15_2 + 1)), (by first | rfl | (simp; done) | (simp [*]; done)), (by first | rfl | (simp; done) | (simp [*]; done)), H', ⟨by have := HK1.out; have := HK2.out; have := HJ5.out; omega⟩, ⟨by repeat (first | (with_reducible first | exact HB.out | apply below_alloc | apply pw_below_drewN | apply below_drew1 | refine below_set ?_ GE597.out) | exact HB.out)⟩⟩
                          · rw [if_neg c19] at H
                            have c19b0 : (((rd_T159 l0 x15_2).f2) == x3_1) = false := beq_eq_false_iff_ne.mpr c19
                            have c19b1 : (((rd_T159 l0 x15_2).f2) != x3_1) = true := bne_iff_ne.mpr c19
                            have H' := Aside0.mk H
                            clear H
                            have hcz21_0 : wc.cell? ⟨gb597, 0, none⟩ = some (.int .i64 ((rd_T159 l0 x15_2).f0)) := (blk_cell BK597.out 0).trans rfl
                            have hcz21_1 : wc.cell? ⟨gb597, 1, none⟩ = some (.int .i64 ((rd_T159 l0 x15_2).f1)) := (blk_cell BK597.out 1).trans rfl
                            have hcz21_2 : wc.cell? ⟨gb597, 2, none⟩ = some (.int .i64 ((rd_T159 l0 x15_2).f2)) := (blk_cell BK597.out 2).trans rfl
                            have hcz21_3 : wc.cell? ⟨gb597, 3, none⟩ = some (.int .i64 ((rd_T159 l0 x15_2).f3)) := (blk_cell BK597.out 3).trans rfl
                            have hfz21_0 := blk_frozen BK597.out 0
                            have hfz21_1 := blk_frozen BK597.out 1
                            have hfz21_2 := blk_frozen BK597.out 2
                            have hfz21_3 := blk_frozen BK597.out 3
                            go_wp2
                            go_roundg kj5
                            case measure => have := HK1.out; have := HK2.out; have := HJ5.out; omega
                            case rel => exact ⟨(x4_2), (wrap64 (x15_2 + 1)), (by first | rfl | (simp; done) | (simp [*]; done)), (by first | rfl | (simp; done) | (simp [*]; done)), H', ⟨by have := HK1.out; have := HK2.out; have := HJ5.out; omega⟩, ⟨by repeat (first | (with_reducible first | exact HB.out | apply below_alloc | apply pw_below_drewN | apply below_drew1 | refine below_set ?_ GE597.out) | exact HB.out)⟩⟩
                        · rw [if_neg c18] at H
                          have c18b0 : decide (3 ≤ ((rd_T159 l0 x15_2).f0)) = false := decide_eq_false c18
                          clear c18
                          have H' := Aside0.mk H
                          clear H
                          have hcz22_0 : wc.cell? ⟨gb597, 0, none⟩ = some (.int .i64 ((rd_T159 l0 x15_2).f0)) := (blk_cell BK597.out 0).trans rfl
                          have hcz22_1 : wc.cell? ⟨gb597, 1, none⟩ = some (.int .i64 ((rd_T159 l0 x15_2).f1)) := (blk_cell BK597.out 1).trans rfl
                          have hcz22_2 : wc.cell? ⟨gb597, 2, none⟩ = some (.int .i64 ((rd_T159 l0 x15_2).f2)) := (blk_cell BK597.out 2).trans rfl
                          have hcz22_3 : wc.cell? ⟨gb597, 3, none⟩ = some (.int .i64 ((rd_T159 l0 x15_2).f3)) := (blk_cell BK597.out 3).trans rfl
                          have hfz22_0 := blk_frozen BK597.out 0
                          have hfz22_1 := blk_frozen BK597.out 1
                          have hfz22_2 := blk_frozen BK597.out 2
                          have hfz22_3 := blk_frozen BK597.out 3
                          go_wp2
                          go_roundg kj5
                          case measure => have := HK1.out; have := HK2.out; have := HJ5.out; omega
                          case rel => exact ⟨(x4_2), (wrap64 (x15_2 + 1)), (by first | rfl | (simp; done) | (simp [*]; done)), (by first | rfl | (simp; done) | (simp [*]; done)), H', ⟨by have := HK1.out; have := HK2.out; have := HJ5.out; omega⟩, ⟨by repeat (first | (with_reducible first | exact HB.out | apply below_alloc | apply pw_below_drewN | apply below_drew1 | refine below_set ?_ GE597.out) | exact HB.out)⟩⟩
                · rw [if_neg c5] at H
                  exact absurd H (by simp)
              · rw [if_neg c4] at H
                exact absurd H (by simp)
            · rw [if_neg c3] at H
              have c3b0 : decide (x15_2 < (l0.length : Int)) = false := decide_eq_false c3
              clear c3
              by_cases c23 : x3_1 < (wrap64 ((l0.length : Int) - 1))
              · rw [if_pos c23] at H
                have c23b0 : decide (x3_1 < (wrap64 ((l0.length : Int) - 1))) = true := decide_eq_true c23
                clear c23
                by_cases c24 : x4_2 = 1
                · rw [if_pos c24] at H
                  have c24b0 : (x4_2 == 1) = true := beq_iff_eq.mpr c24
                  have c24b1 : (x4_2 != 1) = false := bne_eq_false_iff_eq.mpr c24
                  clear c24
                  by_cases c25 : x3_1 = (wrap64 ((l0.length : Int) - 1))
                  · rw [if_pos c25] at H
                    have c25b0 : (x3_1 == (wrap64 ((l0.length : Int) - 1))) = true := beq_iff_eq.mpr c25
                    have c25b1 : (x3_1 != (wrap64 ((l0.length : Int) - 1))) = false := bne_eq_false_iff_eq.mpr c25
                    clear c25
                    by_cases c26 : x4_2 = 0
                    · rw [if_pos c26] at H
                      have c26b0 : (x4_2 == 0) = true := beq_iff_eq.mpr c26
                      have c26b1 : (x4_2 != 0) = false := bne_eq_false_iff_eq.mpr c26
                      clear c26
                      have H' := Aside0.mk H
                      clear H
                      go_wp2
                      go_roundg k2
                      case measure => have := HK1.out; have := HK2.out; omega
                      case rel => exact ⟨(wrap64 (x3_1 + 1)), (by first | rfl | (simp; done) | (simp [*]; done)), H', ⟨by have := HK1.out; have := HK2.out; omega⟩, ⟨by repeat (first | (with_reducible first | exact HB.out | apply below_alloc | apply pw_below_drewN | apply below_drew1) | exact HB.out)⟩⟩
                    · rw [if_neg c26] at H
                      have c26b0 : (x4_2 == 0) = false := beq_eq_false_iff_ne.mpr c26
                      have c26b1 : (x4_2 != 0) = true := bne_iff_ne.mpr c26
                      obtain rfl := Option.some.inj H
                      go_wp2
                      go_ret
                      exact ⟨by first | rfl | (simp [errW_none, errW_some] <;> rfl) | (simp [*, errW_none, errW_some] <;> rfl), by repeat (first | (with_reducible first | exact HB.out | apply below_alloc | apply pw_below_drewN | apply below_drew1) | exact HB.out)⟩
                  · rw [if_neg c25] at H
                    have c25b0 : (x3_1 == (wrap64 ((l0.length : Int) - 1))) = false := beq_eq_false_iff_ne.mpr c25
                    have c25b1 : (x3_1 != (wrap64 ((l0.length : Int) - 1))) = true := bne_iff_ne.mpr c25
                    have H' := Aside0.mk H
                    clear H
                    go_wp2
                    go_roundg k2
                    case measure => have := HK1.out; have := HK2.out; omega
                    case rel => exact ⟨(wrap64 (x3_1 + 1)), (by first | rfl | (simp; done) | (simp [*]; done)), H', ⟨by have := HK1.out; have := HK2.out; omega⟩, ⟨by repeat (first | (with_reducible first | exact HB.out | apply below_alloc | apply pw_below_drewN | apply below_drew1) | exact HB.out)⟩⟩
                · rw [if_neg c24] at H
                  have c24b0 : (x4_2 == 1) = false := beq_eq_false_iff_ne.mpr c24
                  have c24b1 : (x4_2 != 1) = true := bne_iff_ne.mpr c24
                  obtain rfl := Option.some.inj H
                  go_wp2
                  go_ret
                  exact ⟨by first | rfl | (simp [errW_none, errW_some] <;> rfl) | (simp [*, errW_none, errW_some] <;> rfl), by repeat (first | (with_reducible first | exact HB.out | apply below_alloc | apply pw_below_drewN | apply below_drew1) | exact HB.out)⟩
              · rw [if_neg c23] at H
                have c23b0 : decide (x3_1 < (wrap64 ((l0.length : Int) - 1))) = false := decide_eq_false c23
                clear c23
                by_cases c27 : x3_1 = (wrap64 ((l0.length : Int) - 1))
                · rw [if_pos c27] at H
                  have c27b0 : (x3_1 == (wrap64 ((l0.length : Int) - 1))) = true := beq_iff_eq.mpr c27
                  have c27b1 : (x3_1 != (wrap64 ((l0.length : Int) - 1))) = false := bne_eq_false_iff_eq.mpr c27
                  clear c27
                  by_cases c28 : x4_2 = 0
                  · rw [if_pos c28] at H
                    have c28b0 : (x4_2 == 0) = true := beq_iff_eq.mpr c28
                    have c28b1 : (x4_2 != 0) = false := bne_eq_false_iff_eq.mpr c28
                    clear c28
                    have H' := Aside0.mk H
                    clear H
                    go_wp2
                    go_roundg k2
                    case measure => have := HK1.out; have := HK2.out; omega
                    case rel => exact ⟨(wrap64 (x3_1 + 1)), (by first | rfl | (simp; done) | (simp [*]; done)), H', ⟨by have := HK1.out; have := HK2.out; omega⟩, ⟨by repeat (first | (with_reducible first | exact HB.out | apply below_alloc | apply pw_below_drewN | apply below_drew1) | exact HB.out)⟩⟩
                  · rw [if_neg c28] at H
                    have c28b0 : (x4_2 == 0) = false := beq_eq_false_iff_ne.mpr c28
                    have c28b1 : (x4_2 != 0) = true := bne_iff_ne.mpr c28
                    obtain rfl := Option.some.inj H
                    go_wp2
                    go_ret
                    exact ⟨by first | rfl | (simp [errW_none, errW_some] <;> rfl) | (simp [*, errW_none, errW_some] <;> rfl), by repeat (first | (with_reducible first | exact HB.out | apply below_alloc | apply pw_below_drewN | apply below_drew1) | exact HB.out)⟩
                · rw [if_neg c27] at H
                  have c27b0 : (x3_1 == (wrap64 ((l0.length : Int) - 1))) = false := beq_eq_false_iff_ne.mpr c27
                  have c27b1 : (x3_1 != (wrap64 ((l0.length : Int) - 1))) = true := bne_iff_ne.mpr c27
                  have H' := Aside0.mk H
                  clear H
                  go_wp2
                  go_roundg k2
                  case measure => have := HK1.out; have := HK2.out; omega
                  case rel => exact ⟨(wrap64 (x3_1 + 1)), (by first | rfl | (simp; done) | (simp [*]; done)), H', ⟨by have := HK1.out; have := HK2.out; omega⟩, ⟨by repeat (first | (with_reducible first | exact HB.out | apply below_alloc | apply pw_below_drewN | apply below_drew1) | exact HB.out)⟩⟩
      · rw [if_neg c2] at H
        have c2b0 : decide (x3_1 < (l0.length : Int)) = false := decide_eq_false c2
        clear c2
        obtain rfl := Option.some.inj H
        go_wp2
        go_ret
        exact ⟨by first | rfl | (simp [errW_none, errW_some] <;> rfl) | (simp [*, errW_none, errW_some] <;> rfl), by repeat (first | (with_reducible first | exact HB.out | apply below_alloc | apply pw_below_drewN | apply below_drew1) | exact HB.out)⟩

end Go.Proofs.Ytaicamjpcnhjcaa.PA
