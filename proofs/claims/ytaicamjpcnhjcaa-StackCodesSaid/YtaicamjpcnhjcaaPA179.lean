/- Contracts, by a program over the translation: the machine's call of a function comes to what its plain Lean function 'f' says. -/
import Derived.Test.YtaicamjpcnhjcaaPA0
namespace Go.Proofs.Ytaicamjpcnhjcaa.PA
open Go.RowKit Go.Proofs.YtaicamjpcnhjcaaW.PrintWords Go.Proofs.YtaicamjpcnhjcaaW.PrintLast Go.Proofs.YtaicamjpcnhjcaaW.PrintMore
attribute [local go_sem] max2_int min2_int max_two min_two max_three min_three max_four min_four   -- for this text's walks alone
set_option linter.unusedVariables false
set_option linter.unusedSimpArgs false

/-! ### need_tree: function 179 -/
mutual
def need_tree.l0 : Nat → List (S159) → List Int → List (S159) → Int → Int → Option (Bool)
  | 0, _, _, _, _, _ => none
  | k + 1, x0, x3, x11, x12, x13 => if x13 < x12 then (if 0 ≤ x13 then (if x13 < (x11.length : Int) then (if ((rd_T159 x11 x13).f0) > 2 then (if 0 ≤ ((rd_T159 x11 x13).f1) then (if ((rd_T159 x11 x13).f1) < (x3.length : Int) then ((some (x3.set (((rd_T159 x11 x13).f1) : Int).toNat (wrap64 ((rd x3 ((rd_T159 x11 x13).f1)) + 1)) : List Int)).bind fun y557 => (if 0 ≤ ((rd_T159 x11 x13).f2) then (if ((rd_T159 x11 x13).f2) < (x3.length : Int) then (need_tree.l0 k x0 (y557.set (((rd_T159 x11 x13).f2) : Int).toNat (wrap64 ((rd y557 ((rd_T159 x11 x13).f2)) + 1))) x11 x12 (wrap64 (x13 + 1))) else (none)) else (none))) else (none)) else (none)) else (need_tree.l0 k x0 x3 x11 x12 (wrap64 (x13 + 1)))) else (none)) else (none)) else (need_tree.l1 k x0 x3 (x3.length : Int) 0)
def need_tree.l1 : Nat → List (S159) → List Int → Int → Int → Option (Bool)
  | 0, _, _, _, _ => none
  | k + 1, x0, x35, x36, x37 => if x37 < x36 then (if 0 ≤ x37 then (if x37 < (x35.length : Int) then (if (((rd x35 x37) != 1) == (decide (x37 < (wrap64 ((x0.length : Int) - 1))))) = true then (some false) else (need_tree.l1 k x0 x35 x36 (wrap64 (x37 + 1)))) else (none)) else (none)) else (some true)
end
def need_tree.f (k : Nat) (l0 : List (S159)) : Option (Bool) := if 0 ≤ (l0.length : Int) then (if ((l0.length : Int) : Int).toNat ≤ 35184372088832 then (need_tree.l0 k l0 (List.replicate ((l0.length : Int) : Int).toNat 0) l0 (l0.length : Int) 0) else (none)) else (none)
theorem need_tree.mono_l : ∀ k, (∀ y0 y1 y2 y3 y4, LeO (need_tree.l0 k y0 y1 y2 y3 y4) (need_tree.l0 (k + 1) y0 y1 y2 y3 y4)) ∧ (∀ y0 y1 y2 y3, LeO (need_tree.l1 k y0 y1 y2 y3) (need_tree.l1 (k + 1) y0 y1 y2 y3))
  | 0 => ⟨fun _ _ _ _ _ r h => by simp [need_tree.l0] at h, fun _ _ _ _ r h => by simp [need_tree.l1] at h⟩
  | k + 1 => by
    obtain ⟨ih0, ih1⟩ := need_tree.mono_l k
    refine ⟨?_, ?_⟩
    · intro y0 y1 y2 y3 y4
      unfold need_tree.l0
      repeat' first
      | (with_reducible exact ih0 _ _ _ _ _)
      | (with_reducible exact ih1 _ _ _ _)
      | (with_reducible exact LeO.refl _)
      | (with_reducible exact LeO.none _)
      | (with_reducible refine LeO.ite ?_ ?_)
      | (with_reducible refine LeO.bind ?_ (fun _ => ?_))
      | exact ih0 _ _ _ _ _
      | exact ih1 _ _ _ _
      | exact LeO.none _
      | refine LeO.ite ?_ ?_
      | refine LeO.bind ?_ (fun _ => ?_)
    · intro y0 y1 y2 y3
      unfold need_tree.l1
      repeat' first
      | (with_reducible exact ih0 _ _ _ _ _)
      | (with_reducible exact ih1 _ _ _ _)
      | (with_reducible exact LeO.refl _)
      | (with_reducible exact LeO.none _)
      | (with_reducible refine LeO.ite ?_ ?_)
      | (with_reducible refine LeO.bind ?_ (fun _ => ?_))
      | exact ih0 _ _ _ _ _
      | exact ih1 _ _ _ _
      | exact LeO.none _
      | refine LeO.ite ?_ ?_
      | refine LeO.bind ?_ (fun _ => ?_)
theorem need_tree.mono : ∀ a0 k, LeO (need_tree.f k a0) (need_tree.f (k + 1) a0) := by
  intro a0 k
  obtain ⟨ih0, ih1⟩ := need_tree.mono_l k
  unfold need_tree.f
  repeat' first
      | (with_reducible exact ih0 _ _ _ _ _)
      | (with_reducible exact ih1 _ _ _ _)
      | (with_reducible exact LeO.refl _)
      | (with_reducible exact LeO.none _)
      | (with_reducible refine LeO.ite ?_ ?_)
      | (with_reducible refine LeO.bind ?_ (fun _ => ?_))
      | exact ih0 _ _ _ _ _
      | exact ih1 _ _ _ _
      | exact LeO.none _
      | refine LeO.ite ?_ ?_
      | refine LeO.bind ?_ (fun _ => ?_)
set_option maxHeartbeats 8000000 in
set_option maxRecDepth 100000 in
theorem need_tree.calls (k : Nat) (A0 : Option Addr) (c0 : Nat) (l0 : List (S159)) (r : Bool) (w : World) (hr0 : Kd.C k159 w A0 l0.length l0) (hc0 : l0.length ≤ c0) (h : need_tree.f k l0 = some r) :
    Calls Try.prog 179 #[.slice A0 l0.length c0] w fun e w' => e = .returned (.bool r) ∧ Below w.heap.size w w' := by
  have hu159 := Try.underlying159
  have HR0 := Aside0.mk hr0
  have HC0 := Aside0.mk hc0
  clear hr0 hc0
  have HB := Aside0.mk (Below.refl w.heap.size w)
  have H : (if 0 ≤ (l0.length : Int) then (if ((l0.length : Int) : Int).toNat ≤ 35184372088832 then (need_tree.l0 k l0 (List.replicate ((l0.length : Int) : Int).toNat 0) l0 (l0.length : Int) 0) else (none)) else (none)) = some r := h
  clear h
  by_cases c2 : 0 ≤ (l0.length : Int)
  · rw [if_pos c2] at H
    have c2b0 := eq_true c2
    have c2b1 : decide (0 ≤ (l0.length : Int)) = true := decide_eq_true c2
    clear c2
    by_cases c3 : ((l0.length : Int) : Int).toNat ≤ 35184372088832
    · rw [if_pos c3] at H
      have c3b0 := eq_true c3
      have c3b1 : decide (((l0.length : Int) : Int).toNat ≤ 35184372088832) = true := decide_eq_true c3
      clear c3
      obtain ⟨y551, hy551⟩ : ∃ y_ : List Int, y_ = (List.replicate ((l0.length : Int) : Int).toNat 0) := ⟨_, rfl⟩
      replace H : (need_tree.l0 k l0 y551 l0 (l0.length : Int) 0) = some r := by first | (rw [hy551]; with_reducible exact H) | (have H2_ := (Option.bind_some _ _).symm.trans H; rw [hy551]; with_reducible exact H2_) | (have H2_ := (Option.bind_some _ _).symm.trans H; with_reducible exact H2_) | with_reducible exact H | (rw [hy551]; exact H) | exact H
      have Ny551 := Aside0.mk hy551
      clear hy551
      have H' := Aside0.mk H
      clear H
      go_enter Try.func179, Try.ntmps179
      go_wp2_with (first | ((with_reducible refine gate_dst (N := 10) rfl ?_); refine Kd.R_make (Kd.int .i64) _ 3 rfl (N := 10) rfl 23 _ _ rfl (l0.length : Int) rfl rfl Try.underlying23 (.int .i64 0) 8 info3 rfl (by decide) (by omega) 0 (ok := fun _ => True) (okp := fun _ => True) rfl (fun _ hk => hk) trivial (of_decide_eq_true (by first | (with_reducible assumption) | assumption)) (Nat.le_trans (Nat.mul_le_mul_right _ (of_decide_eq_true (by first | (with_reducible assumption) | assumption) : (l0.length : Int).toNat ≤ 35184372088832)) (by omega)) (Below.refl _ _) (Nat.le_refl _) ?_; intro v552 w4 ho5 hb hg_ hnew_; clear hg_ hnew_; (first | rw [← Ny551.out] at ho5 | (simp only [Int.reduceToNat] at ho5; rw [← Ny551.out] at ho5)); have n0_ := Aside0.mk (Kd.R_lower ho5 (below_size (by repeat (first | (with_reducible first | exact HB.out | apply below_alloc | apply pw_below_drewN | apply below_drew1) | exact HB.out)))); have n1_ := Aside0.mk (below_step (by repeat (first | (with_reducible first | exact HB.out | apply below_alloc | apply pw_below_drewN | apply below_drew1) | exact HB.out)) hb); clear HB; have HO553 := n0_; have HB := n1_; clear n0_ n1_; clear hb ho5))
      go_loopg [13] k (fun kq v13 w' => ∃ (x3_1 : List Int) (x13_1 : Int), v13 = .int .i64 x13_1 ∧ Aside0 (need_tree.l0 kq l0 x3_1 l0 (l0.length : Int) x13_1 = some r) ∧ Aside0 (kq ≤ k) ∧ Aside0 (Kd.R (Kd.int .i64) 3 w' w.heap.size (fun _ => True) v552 x3_1) ∧ Aside0 (Below w.heap.size w w'))
      case atStart => exact ⟨(y551), (0), (by first | rfl | (simp; done) | (simp [*]; done)), H', ⟨Nat.le_refl _⟩, ⟨by (with_reducible repeat (first | apply Kd.R_alloc | apply Kd.R_drewN | apply Kd.R_drew)); exact HO553.out⟩, ⟨by repeat (first | (with_reducible first | exact HB.out | apply below_alloc | apply pw_below_drewN | apply below_drew1) | exact HB.out)⟩⟩
      case round =>
        clear H'
        try clear c1
        try clear c2
        try clear c2b0
        try clear c2b1
        try clear p2
        try clear c3
        try clear c3b0
        try clear c3b1
        obtain ⟨x3_1, x13_1, rfl, HA, HK1, HO_3, HB⟩ := hrel
        cases gk with
        | zero => exact absurd HA.out (by simp [need_tree.l0])
        | succ k1 =>
          have H := HA.out
          clear HA
          simp only [need_tree.l0] at H
          by_cases c6 : x13_1 < (l0.length : Int)
          · rw [if_pos c6] at H
            have c6b0 : decide (x13_1 < (l0.length : Int)) = true := decide_eq_true c6
            clear c6
            by_cases c7 : 0 ≤ x13_1
            · rw [if_pos c7] at H
              have c7b0 : decide (0 ≤ x13_1) = true := decide_eq_true c7
              clear c7
              by_cases c8 : x13_1 < (l0.length : Int)
              · rw [if_pos c8] at H
                have c8b0 : decide (x13_1 < (l0.length : Int)) = true := decide_eq_true c8
                clear c8
                by_cases c9 : ((rd_T159 l0 x13_1).f0) > 2
                · rw [if_pos c9] at H
                  have c9b0 : decide (2 < ((rd_T159 l0 x13_1).f0)) = true := decide_eq_true c9
                  clear c9
                  by_cases c10 : 0 ≤ ((rd_T159 l0 x13_1).f1)
                  · rw [if_pos c10] at H
                    have c10b0 : decide (0 ≤ ((rd_T159 l0 x13_1).f1)) = true := decide_eq_true c10
                    clear c10
                    by_cases c11 : ((rd_T159 l0 x13_1).f1) < (x3_1.length : Int)
                    · rw [if_pos c11] at H
                      have c11b0 : decide (((rd_T159 l0 x13_1).f1) < (x3_1.length : Int)) = true := decide_eq_true c11
                      clear c11
                      obtain ⟨y557, hy557⟩ : ∃ y_ : List Int, y_ = (x3_1.set (((rd_T159 l0 x13_1).f1) : Int).toNat (wrap64 ((rd x3_1 ((rd_T159 l0 x13_1).f1)) + 1))) := ⟨_, rfl⟩
                      replace H : (if 0 ≤ ((rd_T159 l0 x13_1).f2) then (if ((rd_T159 l0 x13_1).f2) < (x3_1.length : Int) then (need_tree.l0 k1 l0 (y557.set (((rd_T159 l0 x13_1).f2) : Int).toNat (wrap64 ((rd y557 ((rd_T159 l0 x13_1).f2)) + 1))) l0 (l0.length : Int) (wrap64 (x13_1 + 1))) else (none)) else (none)) = some r := by first | (rw [hy557]; with_reducible exact H) | (have H2_ := (Option.bind_some _ _).symm.trans H; rw [hy557]; with_reducible exact H2_) | (have H2_ := (Option.bind_some _ _).symm.trans H; with_reducible exact H2_) | with_reducible exact H | (rw [hy557]; exact H) | exact H
                      have Ny557 := Aside0.mk hy557
                      clear hy557
                      by_cases c13 : 0 ≤ ((rd_T159 l0 x13_1).f2)
                      · rw [if_pos c13] at H
                        have c13b0 : decide (0 ≤ ((rd_T159 l0 x13_1).f2)) = true := decide_eq_true c13
                        clear c13
                        by_cases c14 : ((rd_T159 l0 x13_1).f2) < (x3_1.length : Int)
                        · rw [if_pos c14] at H
                          have c14b0 : decide (((rd_T159 l0 x13_1).f2) < (x3_1.length : Int)) = true := decide_eq_true c14
                          clear c14
                          obtain ⟨y559, hy559⟩ : ∃ y_ : List Int, y_ = (y557.set (((rd_T159 l0 x13_1).f2) : Int).toNat (wrap64 ((rd y557 ((rd_T159 l0 x13_1).f2)) + 1))) := ⟨_, rfl⟩
                          replace H : (need_tree.l0 k1 l0 y559 l0 (l0.length : Int) (wrap64 (x13_1 + 1))) = some r := by first | (rw [hy559]; with_reducible exact H) | (have H2_ := (Option.bind_some _ _).symm.trans H; rw [hy559]; with_reducible exact H2_) | (have H2_ := (Option.bind_some _ _).symm.trans H; with_reducible exact H2_) | with_reducible exact H | (rw [hy559]; exact H) | exact H
                          have Ny559 := Aside0.mk hy559
                          clear hy559
                          have H' := Aside0.mk H
                          clear H
                          have p554 : 0 ≤ (x13_1 : Int) := of_decide_eq_true (by first | (with_reducible assumption) | assumption)
                          have q554 : x13_1 < (l0.length : Int) := of_decide_eq_true (by first | (with_reducible assumption) | assumption)
                          obtain ⟨ad554, e554, hx554_0, hx554_1, hx554_2, hx554_3⟩ := at_T159 HR0.out x13_1 p554 q554
                          cases e554
                          replace hx554_0 := (HB.out.cell (World.block_lt_of_cell? w _ hx554_0)).trans hx554_0
                          replace hx554_1 := (HB.out.cell (World.block_lt_of_cell? w _ hx554_1)).trans hx554_1
                          replace hx554_2 := (HB.out.cell (World.block_lt_of_cell? w _ hx554_2)).trans hx554_2
                          replace hx554_3 := (HB.out.cell (World.block_lt_of_cell? w _ hx554_3)).trans hx554_3
                          replace p554 := eq_true p554
                          replace q554 := eq_true q554
                          go_wp2_with (first | ((with_reducible refine gate_dst (N := 5) rfl ?_); refine box_event ?hg (N := 5) ?hd (cs := #[.int .i64 0, .int .i64 0, .int .i64 0, .int .i64 0]) (t := 159) ?hr ?_; (case hd => rfl); (case hg => rfl); (case hr => first | (go_simp; done) | (go_simp; rfl)); intro gb555 hg w16 hbox hb; have n0_ := Aside0.mk (Kd.R_below (by (with_reducible repeat (first | apply Kd.R_alloc | apply Kd.R_drewN | apply Kd.R_drew)); exact HO_3.out) hb); have n1_ := Aside0.mk (below_step (by repeat (first | (with_reducible first | exact HB.out | apply below_alloc | apply pw_below_drewN | apply below_drew1) | exact HB.out)) hb); have n2_ := Aside0.mk (hbox); have n3_ := Aside0.mk ((by rw [hg]; exact (below_size (by repeat (first | (with_reducible first | exact HB.out | apply below_alloc | apply pw_below_drewN | apply below_drew1) | exact HB.out))) : w.heap.size ≤ gb555)); have n4_ := Aside0.mk ((by rw [hg]; exact (below_size (by repeat (first | (with_reducible first | exact HB.out | apply below_alloc | apply pw_below_drewN | apply below_drew1) | exact HB.out))) : w.heap.size ≤ gb555)); clear HO_3; clear HB; have HO_3 := n0_; have HB := n1_; have BK555 := n2_; have GW555 := n3_; have GE555 := n4_; clear n0_ n1_ n2_ n3_ n4_; clear hb hbox hg; have hcz17_0 : w16.cell? ⟨gb555, 0, none⟩ = some (.int .i64 0) := (blk_cell BK555.out 0).trans rfl; have hcz17_1 : w16.cell? ⟨gb555, 1, none⟩ = some (.int .i64 0) := (blk_cell BK555.out 1).trans rfl; have hcz17_2 : w16.cell? ⟨gb555, 2, none⟩ = some (.int .i64 0) := (blk_cell BK555.out 2).trans rfl; have hcz17_3 : w16.cell? ⟨gb555, 3, none⟩ = some (.int .i64 0) := (blk_cell BK555.out 3).trans rfl; have hfz17_0 := blk_frozen BK555.out 0; have hfz17_1 := blk_frozen BK555.out 1; have hfz17_2 := blk_frozen BK555.out 2; have hfz17_3 := blk_frozen BK555.out 3) | ((with_reducible refine gate_store (t := 159) (p := 5) rfl ?_); refine store_event (t := 159) (p := 5) (v := ?vo_w18) (w1 := ((((w16.setCell ⟨gb555, 0, none⟩ (.int .i64 ((rd_T159 l0 x13_1).f0))).setCell ⟨gb555, 1, none⟩ (.int .i64 ((rd_T159 l0 x13_1).f1))).setCell ⟨gb555, 2, none⟩ (.int .i64 ((rd_T159 l0 x13_1).f2))).setCell ⟨gb555, 3, none⟩ (.int .i64 ((rd_T159 l0 x13_1).f3)))) ?hg ?ho ?hn ?hr ?_; (case ho => rfl); (case hg => rfl); (case hn => rfl); (case hr => first | (go_simp; done) | (go_simp; rfl)); intro w18 hw; have n0_ : Aside0 (Kd.R (Kd.int .i64) 3 w18 w.heap.size (fun _ => True) v552 x3_1) := ⟨(by rw [hw]; exact (by (with_reducible repeat (first | apply Kd.R_alloc | apply Kd.R_drewN | apply Kd.R_drew)); exact Kd.R_mono (Kd.R_far (p := ⟨gb555, 3, none⟩) (Kd.R_far (p := ⟨gb555, 2, none⟩) (Kd.R_far (p := ⟨gb555, 1, none⟩) (Kd.R_far (p := ⟨gb555, 0, none⟩) (Kd.R_types HO_3.out BK555.out (by decide)) (fun _ hk => hk.2) (.int .i64 ((rd_T159 l0 x13_1).f0))) (fun _ hk => hk.2) (.int .i64 ((rd_T159 l0 x13_1).f1))) (fun _ hk => hk.2) (.int .i64 ((rd_T159 l0 x13_1).f2))) (fun _ hk => hk.2) (.int .i64 ((rd_T159 l0 x13_1).f3))) (fun _ hk => trivial)))⟩; have n1_ : Aside0 (w18.heap[gb555]? = some (.cells #[.int .i64 ((rd_T159 l0 x13_1).f0), .int .i64 ((rd_T159 l0 x13_1).f1), .int .i64 ((rd_T159 l0 x13_1).f2), .int .i64 ((rd_T159 l0 x13_1).f3)] 159 (0, 0))) := ⟨(by rw [hw]; exact (by (with_reducible repeat (first | refine blk_drewN ?_ _ | refine blk_drew ?_ | refine blk_alloc ?_ _)); refine blk_put (cs := #[.int .i64 ((rd_T159 l0 x13_1).f0), .int .i64 ((rd_T159 l0 x13_1).f1), .int .i64 ((rd_T159 l0 x13_1).f2), .int .i64 0]) ?_ 3 _ rfl; (with_reducible repeat (first | refine blk_drewN ?_ _ | refine blk_drew ?_ | refine blk_alloc ?_ _)); refine blk_put (cs := #[.int .i64 ((rd_T159 l0 x13_1).f0), .int .i64 ((rd_T159 l0 x13_1).f1), .int .i64 0, .int .i64 0]) ?_ 2 _ rfl; (with_reducible repeat (first | refine blk_drewN ?_ _ | refine blk_drew ?_ | refine blk_alloc ?_ _)); refine blk_put (cs := #[.int .i64 ((rd_T159 l0 x13_1).f0), .int .i64 0, .int .i64 0, .int .i64 0]) ?_ 1 _ rfl; (with_reducible repeat (first | refine blk_drewN ?_ _ | refine blk_drew ?_ | refine blk_alloc ?_ _)); refine blk_put (cs := #[.int .i64 0, .int .i64 0, .int .i64 0, .int .i64 0]) ?_ 0 _ rfl; (with_reducible repeat (first | refine blk_drewN ?_ _ | refine blk_drew ?_ | refine blk_alloc ?_ _)); exact BK555.out))⟩; have n2_ : Aside0 (Below w.heap.size w w18) := ⟨(by rw [hw]; exact (by repeat (first | (with_reducible first | exact HB.out | apply below_alloc | apply pw_below_drewN | apply below_drew1 | refine below_set ?_ GE555.out) | exact HB.out)))⟩; clear hw; clear HO_3; clear BK555; clear HB; have HO_3 := n0_; have BK555 := n1_; have HB := n2_; clear n0_ n1_ n2_; have hcz19_0 : w18.cell? ⟨gb555, 0, none⟩ = some (.int .i64 ((rd_T159 l0 x13_1).f0)) := (blk_cell BK555.out 0).trans rfl; have hcz19_1 : w18.cell? ⟨gb555, 1, none⟩ = some (.int .i64 ((rd_T159 l0 x13_1).f1)) := (blk_cell BK555.out 1).trans rfl; have hcz19_2 : w18.cell? ⟨gb555, 2, none⟩ = some (.int .i64 ((rd_T159 l0 x13_1).f2)) := (blk_cell BK555.out 2).trans rfl; have hcz19_3 : w18.cell? ⟨gb555, 3, none⟩ = some (.int .i64 ((rd_T159 l0 x13_1).f3)) := (blk_cell BK555.out 3).trans rfl; have hfz19_0 := blk_frozen BK555.out 0; have hfz19_1 := blk_frozen BK555.out 1; have hfz19_2 := blk_frozen BK555.out 2; have hfz19_3 := blk_frozen BK555.out 3; obtain ⟨Ao20, co20, eo20⟩ := Kd.R_slice HO_3.out; subst eo20; have p556 : 0 ≤ (((rd_T159 l0 x13_1).f1) : Int) := of_decide_eq_true (by first | (with_reducible assumption) | assumption); have q556 : ((rd_T159 l0 x13_1).f1) < (x3_1.length : Int) := of_decide_eq_true (by first | (with_reducible assumption) | assumption); obtain ⟨ad556, e556, hx556_0⟩ := Kd.at_int (Kd.R_reads' HO_3.out).2.2 ((rd_T159 l0 x13_1).f1) p556 q556; cases e556; replace p556 := eq_true p556; replace q556 := eq_true q556; have p12 : 0 ≤ (((rd_T159 l0 x13_1).f1) : Int) := of_decide_eq_true (by first | (with_reducible assumption) | assumption); have q12 : (((rd_T159 l0 x13_1).f1) : Int) < ((x3_1.length : Int) : Int) := of_decide_eq_true (by first | (with_reducible assumption) | assumption); obtain ⟨go12, co12, eo12, gb12, gl12, cl12, HG12⟩ := Kd.R_form HO_3.out (by omega); (first | cases eo12 | (injection eo12 with ea_ en_ ec_; (first | subst ea_ | (injection ea_ with ea_; subst ea_)); subst ec_; clear en_)); have GB12 := Aside0.mk gb12; have GG12 := Aside0.mk HG12; clear gb12 gl12 HG12; (first | simp only [add_plain] at hx556_0 | skip); obtain ⟨hx12_0, hf12_0⟩ := Kd.R_celln 0 HO_3.out (((rd_T159 l0 x13_1).f1) : Int) p12 q12; replace p12 := eq_true p12; replace q12 := eq_true q12; obtain ⟨hy21_, hz21_⟩ := Kd.R_celln 0 HO_3.out (((rd_T159 l0 x13_1).f1) : Int) (of_decide_eq_true (by first | (with_reducible assumption) | assumption)) (of_decide_eq_true (by first | (with_reducible assumption) | assumption)); have HP21 := Kd.R_putg HO_3.out (((rd_T159 l0 x13_1).f1) : Int) (wrap64 ((rd x3_1 ((rd_T159 l0 x13_1).f1)) + 1))) | ((with_reducible refine gate_store (t := 3) (p := 26) rfl ?_); refine store_event (t := 3) (p := 26) (v := ?vo_w22) (w1 := (w18.setCell ⟨go12, (((rd_T159 l0 x13_1).f1) : Int).toNat, none⟩ (.int .i64 (wrap64 ((rd x3_1 ((rd_T159 l0 x13_1).f1)) + 1))))) ?hg ?ho ?hn ?hr ?_; (case ho => rfl); (case hg => rfl); (case hn => rfl); (case hr => first | (go_simp; done) | (go_simp; rfl)); intro w22 hw; have hg : w18.grownBy w22 (some go12) := (by rw [hw]; exact HP21.2); have hp_ : Kd.R (Kd.int .i64) 3 w22 w.heap.size (fun _ => True) (.slice (some ⟨go12, 0, none⟩) x3_1.length co20) y557 := (by rw [hw, Ny557.out]; exact HP21.1); clear HP21; have n0_ := Aside0.mk (hp_); have n1_ := Aside0.mk (blk_grown (g := gb555) (o := .cells #[.int .i64 ((rd_T159 l0 x13_1).f0), .int .i64 ((rd_T159 l0 x13_1).f1), .int .i64 ((rd_T159 l0 x13_1).f2), .int .i64 ((rd_T159 l0 x13_1).f3)] 159 (0, 0)) (by (with_reducible repeat (first | refine blk_drewN ?_ _ | refine blk_drew ?_ | refine blk_alloc ?_ _)); exact BK555.out) hg (Kd.R_ne HO_3.out BK555.out (by decide))); have n2_ := Aside0.mk ((by rw [hw]; exact below_set (HB.out) GB12.out : Below w.heap.size w w22)); clear HO_3; clear BK555; clear HB; have HO_3 := n0_; have BK555 := n1_; have HB := n2_; clear n0_ n1_ n2_; clear hg hw hp_; have hcz23_0 : w22.cell? ⟨gb555, 0, none⟩ = some (.int .i64 ((rd_T159 l0 x13_1).f0)) := (blk_cell BK555.out 0).trans rfl; have hcz23_1 : w22.cell? ⟨gb555, 1, none⟩ = some (.int .i64 ((rd_T159 l0 x13_1).f1)) := (blk_cell BK555.out 1).trans rfl; have hcz23_2 : w22.cell? ⟨gb555, 2, none⟩ = some (.int .i64 ((rd_T159 l0 x13_1).f2)) := (blk_cell BK555.out 2).trans rfl; have hcz23_3 : w22.cell? ⟨gb555, 3, none⟩ = some (.int .i64 ((rd_T159 l0 x13_1).f3)) := (blk_cell BK555.out 3).trans rfl; have hfz23_0 := blk_frozen BK555.out 0; have hfz23_1 := blk_frozen BK555.out 1; have hfz23_2 := blk_frozen BK555.out 2; have hfz23_3 := blk_frozen BK555.out 3; have p558 : 0 ≤ (((rd_T159 l0 x13_1).f2) : Int) := of_decide_eq_true (by first | (with_reducible assumption) | assumption); have q558 : ((rd_T159 l0 x13_1).f2) < (y557.length : Int) := (by have h_ : (((rd_T159 l0 x13_1).f2) : Int) < ((x3_1.length : Int) : Int) := of_decide_eq_true (by first | (with_reducible assumption) | assumption); first | (have e_ := (Kd.R_reads' HO_3.out).1; omega) | simpa only [Ny557.out, List.length_set] using h_); have ql558 : ((((rd_T159 l0 x13_1).f2) : Int) < ((x3_1.length : Int) : Int)) = True := eq_true (of_decide_eq_true (by first | (with_reducible assumption) | assumption)); obtain ⟨ad558, e558, hx558_0⟩ := Kd.at_int (Kd.R_reads' HO_3.out).2.2 ((rd_T159 l0 x13_1).f2) p558 q558; obtain rfl : (⟨go12, 0, none⟩ : Addr) = ad558 := (by injection e558); (first | simp only [add_plain] at hx558_0 | simp only [add_at] at hx558_0 | simp only [Addr.add, Nat.zero_add] at hx558_0 | skip); replace p558 := eq_true p558; replace q558 := eq_true q558; have p15 : 0 ≤ (((rd_T159 l0 x13_1).f2) : Int) := of_decide_eq_true (by first | (with_reducible assumption) | assumption); have q15 : (((rd_T159 l0 x13_1).f2) : Int) < ((x3_1.length : Int) : Int) := of_decide_eq_true (by first | (with_reducible assumption) | assumption); obtain ⟨hx15_0, hf15_0⟩ := Kd.R_celln 0 HO_3.out (((rd_T159 l0 x13_1).f2) : Int) p15 q15; replace p15 := eq_true p15; replace q15 := eq_true q15; obtain ⟨hy24_, hz24_⟩ := Kd.R_celln 0 HO_3.out (((rd_T159 l0 x13_1).f2) : Int) (of_decide_eq_true (by first | (with_reducible assumption) | assumption)) (of_decide_eq_true (by first | (with_reducible assumption) | assumption)); have HP24 := Kd.R_putg HO_3.out (((rd_T159 l0 x13_1).f2) : Int) (wrap64 ((rd y557 ((rd_T159 l0 x13_1).f2)) + 1))) | ((with_reducible refine gate_store (t := 3) (p := 33) rfl ?_); refine store_event (t := 3) (p := 33) (v := ?vo_w25) (w1 := (w22.setCell ⟨go12, (((rd_T159 l0 x13_1).f2) : Int).toNat, none⟩ (.int .i64 (wrap64 ((rd y557 ((rd_T159 l0 x13_1).f2)) + 1))))) ?hg ?ho ?hn ?hr ?_; (case ho => rfl); (case hg => rfl); (case hn => rfl); (case hr => first | (go_simp; done) | (go_simp; rfl)); intro w25 hw; have hg : w22.grownBy w25 (some go12) := (by rw [hw]; exact HP24.2); have hp_ : Kd.R (Kd.int .i64) 3 w25 w.heap.size (fun _ => True) (.slice (some ⟨go12, 0, none⟩) x3_1.length co20) y559 := (by rw [hw, Ny559.out]; exact HP24.1); clear HP24; have n0_ := Aside0.mk (hp_); have n1_ := Aside0.mk (blk_grown (g := gb555) (o := .cells #[.int .i64 ((rd_T159 l0 x13_1).f0), .int .i64 ((rd_T159 l0 x13_1).f1), .int .i64 ((rd_T159 l0 x13_1).f2), .int .i64 ((rd_T159 l0 x13_1).f3)] 159 (0, 0)) (by (with_reducible repeat (first | refine blk_drewN ?_ _ | refine blk_drew ?_ | refine blk_alloc ?_ _)); exact BK555.out) hg (Kd.R_ne HO_3.out BK555.out (by decide))); have n2_ := Aside0.mk ((by rw [hw]; exact below_set (HB.out) GB12.out : Below w.heap.size w w25)); clear HO_3; clear BK555; clear HB; have HO_3 := n0_; have BK555 := n1_; have HB := n2_; clear n0_ n1_ n2_; clear hg hw hp_))
                          go_roundg k1
                          case measure => have := HK1.out; omega
                          case rel => exact ⟨(y559), (wrap64 (x13_1 + 1)), (by first | rfl | (simp; done) | (simp [*]; done)), H', ⟨by have := HK1.out; omega⟩, ⟨by (with_reducible repeat (first | apply Kd.R_alloc | apply Kd.R_drewN | apply Kd.R_drew)); exact HO_3.out⟩, ⟨by repeat (first | (with_reducible first | exact HB.out | apply below_alloc | apply pw_below_drewN | apply below_drew1 | refine below_set ?_ GE555.out) | exact HB.out)⟩⟩
                        · rw [if_neg c14] at H
                          exact absurd H (by simp)
                      · rw [if_neg c13] at H
                        exact absurd H (by simp)
                    · rw [if_neg c11] at H
                      exact absurd H (by simp)
                  · rw [if_neg c10] at H
                    exact absurd H (by simp)
                · rw [if_neg c9] at H
                  have c9b0 : decide (2 < ((rd_T159 l0 x13_1).f0)) = false := decide_eq_false c9
                  clear c9
                  have H' := Aside0.mk H
                  clear H
                  have p554 : 0 ≤ (x13_1 : Int) := of_decide_eq_true (by first | (with_reducible assumption) | assumption)
                  have q554 : x13_1 < (l0.length : Int) := of_decide_eq_true (by first | (with_reducible assumption) | assumption)
                  obtain ⟨ad554, e554, hx554_0, hx554_1, hx554_2, hx554_3⟩ := at_T159 HR0.out x13_1 p554 q554
                  cases e554
                  replace hx554_0 := (HB.out.cell (World.block_lt_of_cell? w _ hx554_0)).trans hx554_0
                  replace hx554_1 := (HB.out.cell (World.block_lt_of_cell? w _ hx554_1)).trans hx554_1
                  replace hx554_2 := (HB.out.cell (World.block_lt_of_cell? w _ hx554_2)).trans hx554_2
                  replace hx554_3 := (HB.out.cell (World.block_lt_of_cell? w _ hx554_3)).trans hx554_3
                  replace p554 := eq_true p554
                  replace q554 := eq_true q554
                  go_wp2_with (first | ((with_reducible refine gate_dst (N := 5) rfl ?_); refine box_event ?hg (N := 5) ?hd (cs := #[.int .i64 0, .int .i64 0, .int .i64 0, .int .i64 0]) (t := 159) ?hr ?_; (case hd => rfl); (case hg => rfl); (case hr => first | (go_simp; done) | (go_simp; rfl)); intro gb555 hg w26 hbox hb; have n0_ := Aside0.mk (Kd.R_below (by (with_reducible repeat (first | apply Kd.R_alloc | apply Kd.R_drewN | apply Kd.R_drew)); exact HO_3.out) hb); have n1_ := Aside0.mk (below_step (by repeat (first | (with_reducible first | exact HB.out | apply below_alloc | apply pw_below_drewN | apply below_drew1) | exact HB.out)) hb); have n2_ := Aside0.mk (hbox); have n3_ := Aside0.mk ((by rw [hg]; exact (below_size (by repeat (first | (with_reducible first | exact HB.out | apply below_alloc | apply pw_below_drewN | apply below_drew1) | exact HB.out))) : w.heap.size ≤ gb555)); have n4_ := Aside0.mk ((by rw [hg]; exact (below_size (by repeat (first | (with_reducible first | exact HB.out | apply below_alloc | apply pw_below_drewN | apply below_drew1) | exact HB.out))) : w.heap.size ≤ gb555)); clear HO_3; clear HB; have HO_3 := n0_; have HB := n1_; have BK555 := n2_; have GW555 := n3_; have GE555 := n4_; clear n0_ n1_ n2_ n3_ n4_; clear hb hbox hg; have hcz27_0 : w26.cell? ⟨gb555, 0, none⟩ = some (.int .i64 0) := (blk_cell BK555.out 0).trans rfl; have hcz27_1 : w26.cell? ⟨gb555, 1, none⟩ = some (.int .i64 0) := (blk_cell BK555.out 1).trans rfl; have hcz27_2 : w26.cell? ⟨gb555, 2, none⟩ = some (.int .i64 0) := (blk_cell BK555.out 2).trans rfl; have hcz27_3 : w26.cell? ⟨gb555, 3, none⟩ = some (.int .i64 0) := (blk_cell BK555.out 3).trans rfl; have hfz27_0 := blk_frozen BK555.out 0; have hfz27_1 := blk_frozen BK555.out 1; have hfz27_2 := blk_frozen BK555.out 2; have hfz27_3 := blk_frozen BK555.out 3))
                  go_roundg k1
                  case measure => have := HK1.out; omega
                  case rel => exact ⟨(x3_1), (wrap64 (x13_1 + 1)), (by first | rfl | (simp; done) | (simp [*]; done)), H', ⟨by have := HK1.out; omega⟩, ⟨by (with_reducible repeat (first | apply Kd.R_alloc | apply Kd.R_drewN | apply Kd.R_drew)); exact Kd.R_mono (Kd.R_far (p := ⟨gb555, 3, none⟩) (Kd.R_far (p := ⟨gb555, 2, none⟩) (Kd.R_far (p := ⟨gb555, 1, none⟩) (Kd.R_far (p := ⟨gb555, 0, none⟩) (Kd.R_types HO_3.out BK555.out (by decide)) (fun _ hk => hk.2) (.int .i64 ((rd_T159 l0 x13_1).f0))) (fun _ hk => hk.2) (.int .i64 ((rd_T159 l0 x13_1).f1))) (fun _ hk => hk.2) (.int .i64 ((rd_T159 l0 x13_1).f2))) (fun _ hk => hk.2) (.int .i64 ((rd_T159 l0 x13_1).f3))) (fun _ hk => trivial)⟩, ⟨by repeat (first | (with_reducible first | exact HB.out | apply below_alloc | apply pw_below_drewN | apply below_drew1 | refine below_set ?_ GE555.out) | exact HB.out)⟩⟩
              · rw [if_neg c8] at H
                exact absurd H (by simp)
            · rw [if_neg c7] at H
              exact absurd H (by simp)
          · rw [if_neg c6] at H
            have c6b0 : decide (x13_1 < (l0.length : Int)) = false := decide_eq_false c6
            clear c6
            have H' := Aside0.mk H
            clear H
            obtain ⟨Ao28, co28, eo28⟩ := Kd.R_slice HO_3.out
            subst eo28
            go_wp2
            go_loopg [37] k1 (fun kq v37 w' => ∃ (x37_2 : Int), v37 = .int .i64 x37_2 ∧ Aside0 (need_tree.l1 kq l0 x3_1 (x3_1.length : Int) x37_2 = some r) ∧ Aside0 (kq ≤ k1) ∧ Aside0 (Kd.R (Kd.int .i64) 3 w' w.heap.size (fun _ => True) (.slice Ao28 x3_1.length co28) x3_1) ∧ Aside0 (Below w.heap.size w w'))
            case atStart => exact ⟨(0), (by first | rfl | (simp; done) | (simp [*]; done)), H', ⟨Nat.le_refl _⟩, ⟨by (with_reducible repeat (first | apply Kd.R_alloc | apply Kd.R_drewN | apply Kd.R_drew)); exact HO_3.out⟩, ⟨by repeat (first | (with_reducible first | exact HB.out | apply below_alloc | apply pw_below_drewN | apply below_drew1) | exact HB.out)⟩⟩
            case round =>
              clear H'
              try clear c1
              try clear p1
              try clear q1
              try clear hx1
              try clear hf1
              try clear c2
              try clear c2b0
              try clear c2b1
              try clear p2
              try clear c3
              try clear c3b0
              try clear c3b1
              try clear p5
              try clear q5
              try clear hx5
              try clear c6
              try clear c6b0
              try clear p6
              try clear c7
              try clear c7b0
              try clear c8
              try clear c8b0
              try clear c9
              try clear c9b0
              try clear c10
              try clear c10b0
              try clear c11
              try clear c11b0
              try clear p12
              try clear q12
              try clear hx12
              try clear hf12
              try clear c13
              try clear c13b0
              try clear c14
              try clear c14b0
              try clear p15
              try clear q15
              try clear hx15
              try clear hf15
              try clear c17
              try clear hcz17_0
              try clear hcz17_1
              try clear hcz17_2
              try clear hcz17_3
              try clear hcz19_0
              try clear hcz19_1
              try clear hcz19_2
              try clear hcz19_3
              try clear hcz23_0
              try clear hcz23_1
              try clear hcz23_2
              try clear hcz23_3
              try clear hcz27_0
              try clear hcz27_1
              try clear hcz27_2
              try clear hcz27_3
              try clear hfz17_0
              try clear hfz17_1
              try clear hfz17_2
              try clear hfz17_3
              try clear hfz19_0
              try clear hfz19_1
              try clear hfz19_2
              try clear hfz19_3
              try clear hfz23_0
              try clear hfz23_1
              try clear hfz23_2
              try clear hfz23_3
              try clear hfz27_0
              try clear hfz27_1
              try clear hfz27_2
              try clear hfz27_3
              try clear hx12_0
              try clear hx15_0
              try clear hx554_0
              try clear hx554_1
              try clear hx554_2
              try clear hx554_3
              try clear hx556_0
              try clear hx558_0
              try clear p12
              try clear p15
              try clear p2
              try clear p554
              try clear p556
              try clear p558
              try clear q12
              try clear q15
              try clear q554
              try clear q556
              try clear q558
              obtain ⟨x37_2, rfl, HA, HK2, HO_35, HB⟩ := hrel
              cases gk with
              | zero => exact absurd HA.out (by simp [need_tree.l1])
              | succ k2 =>
                have H := HA.out
                clear HA
                simp only [need_tree.l1] at H
                by_cases c29 : x37_2 < (x3_1.length : Int)
                · rw [if_pos c29] at H
                  have c29b0 : decide (x37_2 < (x3_1.length : Int)) = true := decide_eq_true c29
                  clear c29
                  by_cases c30 : 0 ≤ x37_2
                  · rw [if_pos c30] at H
                    have c30b0 : decide (0 ≤ x37_2) = true := decide_eq_true c30
                    clear c30
                    by_cases c31 : x37_2 < (x3_1.length : Int)
                    · rw [if_pos c31] at H
                      have c31b0 : decide (x37_2 < (x3_1.length : Int)) = true := decide_eq_true c31
                      clear c31
                      by_cases c32 : (((rd x3_1 x37_2) != 1) == (decide (x37_2 < (wrap64 ((l0.length : Int) - 1))))) = true
                      · rw [if_pos c32] at H
                        have c32b0 : (((rd x3_1 x37_2) != 1) == (decide (x37_2 < (wrap64 ((l0.length : Int) - 1))))) = true := c32
                        (try (have c32b1 : decide (((rd x3_1 x37_2) != 1) = (decide (x37_2 < (wrap64 ((l0.length : Int) - 1))))) = true := by simpa using c32))
                        (try (have c32b2 : (((rd x3_1 x37_2) != 1) == (decide (x37_2 < (wrap64 ((l0.length : Int) - 1))))) = true := by simpa using c32))
                        clear c32
                        obtain rfl := Option.some.inj H
                        have p560 : 0 ≤ (x37_2 : Int) := of_decide_eq_true (by first | (with_reducible assumption) | assumption)
                        have q560 : x37_2 < (x3_1.length : Int) := of_decide_eq_true (by first | (with_reducible assumption) | assumption)
                        obtain ⟨ad560, e560, hx560_0⟩ := Kd.at_int (Kd.R_reads' HO_35.out).2.2 x37_2 p560 q560
                        cases e560
                        replace p560 := eq_true p560
                        replace q560 := eq_true q560
                        go_wp2
                        go_ret
                        exact ⟨by first | rfl | (simp [errW_none, errW_some] <;> rfl) | (simp [*, errW_none, errW_some] <;> rfl), by repeat (first | (with_reducible first | exact HB.out | apply below_alloc | apply pw_below_drewN | apply below_drew1) | exact HB.out)⟩
                      · rw [if_neg c32] at H
                        have c32b0 : (((rd x3_1 x37_2) != 1) == (decide (x37_2 < (wrap64 ((l0.length : Int) - 1))))) = false := by simpa using c32
                        (try (have c32b1 : decide (((rd x3_1 x37_2) != 1) = (decide (x37_2 < (wrap64 ((l0.length : Int) - 1))))) = false := by simpa using c32))
                        (try (have c32b2 : (((rd x3_1 x37_2) != 1) == (decide (x37_2 < (wrap64 ((l0.length : Int) - 1))))) = false := by simpa using c32))
                        (try (have c32b3 : ¬ (((rd x3_1 x37_2) != 1) = (decide (x37_2 < (wrap64 ((l0.length : Int) - 1))))) := by simpa using c32))
                        clear c32
                        have H' := Aside0.mk H
                        clear H
                        have p560 : 0 ≤ (x37_2 : Int) := of_decide_eq_true (by first | (with_reducible assumption) | assumption)
                        have q560 : x37_2 < (x3_1.length : Int) := of_decide_eq_true (by first | (with_reducible assumption) | assumption)
                        obtain ⟨ad560, e560, hx560_0⟩ := Kd.at_int (Kd.R_reads' HO_35.out).2.2 x37_2 p560 q560
                        cases e560
                        replace p560 := eq_true p560
                        replace q560 := eq_true q560
                        go_wp2
                        go_roundg k2
                        case measure => have := HK1.out; have := HK2.out; omega
                        case rel => exact ⟨(wrap64 (x37_2 + 1)), (by first | rfl | (simp; done) | (simp [*]; done)), H', ⟨by have := HK1.out; have := HK2.out; omega⟩, ⟨by (with_reducible repeat (first | apply Kd.R_alloc | apply Kd.R_drewN | apply Kd.R_drew)); exact HO_35.out⟩, ⟨by repeat (first | (with_reducible first | exact HB.out | apply below_alloc | apply pw_below_drewN | apply below_drew1) | exact HB.out)⟩⟩
                    · rw [if_neg c31] at H
                      exact absurd H (by simp)
                  · rw [if_neg c30] at H
                    exact absurd H (by simp)
                · rw [if_neg c29] at H
                  have c29b0 : decide (x37_2 < (x3_1.length : Int)) = false := decide_eq_false c29
                  clear c29
                  obtain rfl := Option.some.inj H
                  go_wp2
                  go_ret
                  exact ⟨by first | rfl | (simp [errW_none, errW_some] <;> rfl) | (simp [*, errW_none, errW_some] <;> rfl), by repeat (first | (with_reducible first | exact HB.out | apply below_alloc | apply pw_below_drewN | apply below_drew1) | exact HB.out)⟩
    · rw [if_neg c3] at H
      exact absurd H (by simp)
  · rw [if_neg c2] at H
    exact absurd H (by simp)

end Go.Proofs.Ytaicamjpcnhjcaa.PA
