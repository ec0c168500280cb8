/- Texts of one proof, merged: PA44, Pu0, Pu3, Pu2, Pu5, Pu7, Pu10. -/
import Derived.Test.YtaicamjpcnhjcaaMMachCodes3
namespace Go.Proofs.Ytaicamjpcnhjcaa.PA
open Go.RowKit Go.Proofs.YtaicamjpcnhjcaaW.PrintWords Go.Proofs.YtaicamjpcnhjcaaW.PrintLast Go.Proofs.YtaicamjpcnhjcaaW.PrintMore
set_option linter.unusedVariables false
set_option linter.unusedSimpArgs false
mutual
def codemasonref_Machine.l0 : Nat → List Int → List Int → List Int → Int → Int → Option (List Int × Int)
  | 0, _, _, _, _, _ => none
  | k + 1, x0, x6, x18, x19, x20 => if x20 < x19 then (if 0 ≤ x20 then (if x20 < (x18.length : Int) then (if x20 < (x6.length : Int) then (codemasonref_Machine.l0 k x0 (x6.set (x20 : Int).toNat (rd x18 x20)) x18 x19 (wrap64 (x20 + 1))) else (none)) else (none)) else (none)) else (codemasonref_Machine.l1 k x0 x6 0 0 0)
def codemasonref_Machine.l1 : Nat → List Int → List Int → Int → Int → Int → Option (List Int × Int)
  | 0, _, _, _, _, _ => none
  | k + 1, x0, x6, x9, x10, x11 => if x11 < 20000 then (if x9 ≥ (x0.length : Int) then (some (([] : List Int), 6)) else (if 0 ≤ x9 then (if x9 < (x0.length : Int) then ((codemasonref_OrderSize.f (rd x0 x9)).bind fun t490 => (if t490 = 0 then (codemasonref_Machine.j2 k x0 x6 x9 x10 x11 t490 true) else (codemasonref_Machine.j2 k x0 x6 x9 x10 x11 t490 (decide ((wrap64 (x9 + t490)) > (x0.length : Int)))))) else (none)) else (none))) else (some (([] : List Int), 7))
def codemasonref_Machine.j2 : Nat → List Int → List Int → Int → Int → Int → Int → Bool → Option (List Int × Int)
  | 0, _, _, _, _, _, _, _ => none
  | k + 1, x0, x6, x9, x10, x11, x12, x52 => if x52 = true then (some (([] : List Int), 6)) else (if 0 ≤ x9 then (if x9 < (x0.length : Int) then (if x12 = 3 then (if 0 ≤ (wrap64 (x9 + 1)) then (if (wrap64 (x9 + 1)) < (x0.length : Int) then (if 0 ≤ (wrap64 (x9 + 2)) then (if (wrap64 (x9 + 2)) < (x0.length : Int) then (codemasonref_Machine.j3 k x0 x6 x9 x10 x11 x12 (wrap64 (Int.tdiv (wrap64 (rd x0 x9)) 8)) (Int.tmod (wrap64 (rd x0 x9)) 8) (wrap64 ((wrap64 (rd x0 (wrap64 (x9 + 1)))) + (wrap64 (256 * (wrap64 (rd x0 (wrap64 (x9 + 2))))))))) else (none)) else (none)) else (none)) else (none)) else (codemasonref_Machine.j3 k x0 x6 x9 x10 x11 x12 (wrap64 (Int.tdiv (wrap64 (rd x0 x9)) 8)) (Int.tmod (wrap64 (rd x0 x9)) 8) 0)) else (none)) else (none))
def codemasonref_Machine.j3 : Nat → List Int → List Int → Int → Int → Int → Int → Int → Int → Int → Option (List Int × Int)
  | 0, _, _, _, _, _, _, _, _, _ => none
  | k + 1, x0, x6, x9, x10, x11, x12, x13, x14, x15 => if x13 = 0 then (some (x6, 0)) else (if x13 = 1 then (if 0 ≤ (wrap64 (x9 + 1)) then (if (wrap64 (x9 + 1)) < (x0.length : Int) then (codemasonref_Machine.l1 k x0 x6 (wrap64 (x9 + x12)) (wrap64 (rd x0 (wrap64 (x9 + 1)))) (wrap64 (x11 + 1))) else (none)) else (none)) else (if x13 = 2 then (if 0 ≤ x14 then (if x14 < (x6.length : Int) then (codemasonref_Machine.l1 k x0 x6 (wrap64 (x9 + x12)) (rd x6 x14) (wrap64 (x11 + 1))) else (none)) else (none)) else (if x13 = 3 then (if 0 ≤ x14 then (if x14 < (x6.length : Int) then (codemasonref_Machine.l1 k x0 (x6.set (x14 : Int).toNat x10) (wrap64 (x9 + x12)) x10 (wrap64 (x11 + 1))) else (none)) else (none)) else (if x13 = 8 then (codemasonref_Machine.l1 k x0 x6 x15 x10 (wrap64 (x11 + 1))) else (if x13 = 9 then (if 0 ≤ x14 then (if x14 < (x6.length : Int) then (if (rd x6 x14) = 0 then (codemasonref_Machine.l1 k x0 x6 x15 x10 (wrap64 (x11 + 1))) else (codemasonref_Machine.l1 k x0 x6 (wrap64 (x9 + x12)) x10 (wrap64 (x11 + 1)))) else (none)) else (none)) else (if 0 ≤ x14 then (if x14 < (x6.length : Int) then ((codemasonref_Op.f k (wrap64 ((wrap64 (3 + x13)) - 4)) x10 (rd x6 x14)).bind fun t500 => (codemasonref_Machine.l1 k x0 x6 (wrap64 (x9 + x12)) t500 (wrap64 (x11 + 1)))) else (none)) else (none)))))))
end
def codemasonref_Machine.f (k : Nat) (l0 : List Int) (l1 : List Int) : Option (List Int × Int) := if 6 ≤ 35184372088832 then (codemasonref_Machine.l0 k l0 (List.replicate 6 0) l1 (l1.length : Int) 0) else (none)
theorem codemasonref_Machine.mono_l : ∀ k, (∀ y0 y1 y2 y3 y4, LeO (codemasonref_Machine.l0 k y0 y1 y2 y3 y4) (codemasonref_Machine.l0 (k + 1) y0 y1 y2 y3 y4)) ∧ (∀ y0 y1 y2 y3 y4, LeO (codemasonref_Machine.l1 k y0 y1 y2 y3 y4) (codemasonref_Machine.l1 (k + 1) y0 y1 y2 y3 y4)) ∧ (∀ y0 y1 y2 y3 y4 y5 y6, LeO (codemasonref_Machine.j2 k y0 y1 y2 y3 y4 y5 y6) (codemasonref_Machine.j2 (k + 1) y0 y1 y2 y3 y4 y5 y6)) ∧ (∀ y0 y1 y2 y3 y4 y5 y6 y7 y8, LeO (codemasonref_Machine.j3 k y0 y1 y2 y3 y4 y5 y6 y7 y8) (codemasonref_Machine.j3 (k + 1) y0 y1 y2 y3 y4 y5 y6 y7 y8))
  | 0 => ⟨fun _ _ _ _ _ r h => by simp [codemasonref_Machine.l0] at h, fun _ _ _ _ _ r h => by simp [codemasonref_Machine.l1] at h, fun _ _ _ _ _ _ _ r h => by simp [codemasonref_Machine.j2] at h, fun _ _ _ _ _ _ _ _ _ r h => by simp [codemasonref_Machine.j3] at h⟩
  | k + 1 => by
    obtain ⟨ih0, ih1, ih2, ih3⟩ := codemasonref_Machine.mono_l k
    refine ⟨?_, ?_, ?_, ?_⟩
    · intro y0 y1 y2 y3 y4
      unfold codemasonref_Machine.l0
      repeat' first
      | (with_reducible exact ih0 _ _ _ _ _)
      | (with_reducible exact ih1 _ _ _ _ _)
      | (with_reducible exact ih2 _ _ _ _ _ _ _)
      | (with_reducible exact ih3 _ _ _ _ _ _ _ _ _)
      | (with_reducible exact codemasonref_Op.mono _ _ _ _)
      | (with_reducible exact LeO.refl _)
      | (with_reducible exact LeO.none _)
      | (with_reducible refine LeO.ite ?_ ?_)
      | (with_reducible refine LeO.bind ?_ (fun _ => ?_))
      | exact ih0 _ _ _ _ _
      | exact ih1 _ _ _ _ _
      | exact ih2 _ _ _ _ _ _ _
      | exact ih3 _ _ _ _ _ _ _ _ _
      | exact codemasonref_Op.mono _ _ _ _
      | exact LeO.none _
      | refine LeO.ite ?_ ?_
      | refine LeO.bind ?_ (fun _ => ?_)
    · intro y0 y1 y2 y3 y4
      unfold codemasonref_Machine.l1
      repeat' first
      | (with_reducible exact ih0 _ _ _ _ _)
      | (with_reducible exact ih1 _ _ _ _ _)
      | (with_reducible exact ih2 _ _ _ _ _ _ _)
      | (with_reducible exact ih3 _ _ _ _ _ _ _ _ _)
      | (with_reducible exact codemasonref_Op.mono _ _ _ _)
      | (with_reducible exact LeO.refl _)
      | (with_reducible exact LeO.none _)
      | (with_reducible refine LeO.ite ?_ ?_)
      | (with_reducible refine LeO.bind ?_ (fun _ => ?_))
      | exact ih0 _ _ _ _ _
      | exact ih1 _ _ _ _ _
      | exact ih2 _ _ _ _ _ _ _
      | exact ih3 _ _ _ _ _ _ _ _ _
      | exact codemasonref_Op.mono _ _ _ _
      | exact LeO.none _
      | refine LeO.ite ?_ ?_
      | refine LeO.bind ?_ (fun _ => ?_)
    · intro y0 y1 y2 y3 y4 y5 y6
      unfold codemasonref_Machine.j2
      repeat' first
      | (with_reducible exact ih0 _ _ _ _ _)
      | (with_reducible exact ih1 _ _ _ _ _)
      | (with_reducible exact ih2 _ _ _ _ _ _ _)
      | (with_reducible exact ih3 _ _ _ _ _ _ _ _ _)
      | (with_reducible exact codemasonref_Op.mono _ _ _ _)
      | (with_reducible exact LeO.refl _)
      | (with_reducible exact LeO.none _)
      | (with_reducible refine LeO.ite ?_ ?_)
      | (with_reducible refine LeO.bind ?_ (fun _ => ?_))
      | exact ih0 _ _ _ _ _
      | exact ih1 _ _ _ _ _
      | exact ih2 _ _ _ _ _ _ _
      | exact ih3 _ _ _ _ _ _ _ _ _
      | exact codemasonref_Op.mono _ _ _ _
      | exact LeO.none _
      | refine LeO.ite ?_ ?_
      | refine LeO.bind ?_ (fun _ => ?_)
    · intro y0 y1 y2 y3 y4 y5 y6 y7 y8
      unfold codemasonref_Machine.j3
      repeat' first
      | (with_reducible exact ih0 _ _ _ _ _)
      | (with_reducible exact ih1 _ _ _ _ _)
      | (with_reducible exact ih2 _ _ _ _ _ _ _)
      | (with_reducible exact ih3 _ _ _ _ _ _ _ _ _)
      | (with_reducible exact codemasonref_Op.mono _ _ _ _)
      | (with_reducible exact LeO.refl _)
      | (with_reducible exact LeO.none _)
      | (with_reducible refine LeO.ite ?_ ?_)
      | (with_reducible refine LeO.bind ?_ (fun _ => ?_))
      | exact ih0 _ _ _ _ _
      | exact ih1 _ _ _ _ _
      | exact ih2 _ _ _ _ _ _ _
      | exact ih3 _ _ _ _ _ _ _ _ _
      | exact codemasonref_Op.mono _ _ _ _
      | exact LeO.none _
      | refine LeO.ite ?_ ?_
      | refine LeO.bind ?_ (fun _ => ?_)
theorem codemasonref_Machine.mono : ∀ a0 a1 k, LeO (codemasonref_Machine.f k a0 a1) (codemasonref_Machine.f (k + 1) a0 a1) := by
  intro a0 a1 k
  obtain ⟨ih0, ih1, ih2, ih3⟩ := codemasonref_Machine.mono_l k
  unfold codemasonref_Machine.f
  repeat' first
      | (with_reducible exact ih0 _ _ _ _ _)
      | (with_reducible exact ih1 _ _ _ _ _)
      | (with_reducible exact ih2 _ _ _ _ _ _ _)
      | (with_reducible exact ih3 _ _ _ _ _ _ _ _ _)
      | (with_reducible exact codemasonref_Op.mono _ _ _ _)
      | (with_reducible exact LeO.refl _)
      | (with_reducible exact LeO.none _)
      | (with_reducible refine LeO.ite ?_ ?_)
      | (with_reducible refine LeO.bind ?_ (fun _ => ?_))
      | exact ih0 _ _ _ _ _
      | exact ih1 _ _ _ _ _
      | exact ih2 _ _ _ _ _ _ _
      | exact ih3 _ _ _ _ _ _ _ _ _
      | exact codemasonref_Op.mono _ _ _ _
      | exact LeO.none _
      | refine LeO.ite ?_ ?_
      | refine LeO.bind ?_ (fun _ => ?_)
set_option maxHeartbeats 8000000 in
set_option maxRecDepth 100000 in
theorem codemasonref_Machine.calls (k : Nat) (A0 : Option Addr) (c0 : Nat) (l0 : List Int) (A1 : Option Addr) (c1 : Nat) (l1 : List Int) (r1 : List Int) (r2 : Int) (w : World) (hr0 : Kd.C (Kd.int .u8) w A0 l0.length l0) (hc0 : l0.length ≤ c0) (hr1 : Kd.C (Kd.int .i64) w A1 l1.length l1) (hc1 : l1.length ≤ c1) (h : codemasonref_Machine.f k l0 l1 = some (r1, r2)) :
    Calls Try.prog 44 #[.slice A0 l0.length c0, .slice A1 l1.length c1] w fun e w' => ∃ v0_ : Value, e = .returned (.tuple #[v0_, .int .i64 r2]) ∧ Kd.R (Kd.int .i64) 3 w' w.heap.size (fun _ => True) v0_ r1 ∧ Below w.heap.size w w' := by
  have HR0 := Aside0.mk hr0
  have HC0 := Aside0.mk hc0
  clear hr0 hc0
  have HR1 := Aside0.mk hr1
  have HC1 := Aside0.mk hc1
  clear hr1 hc1
  have HB := Aside0.mk (Below.refl w.heap.size w)
  have H : (if 6 ≤ 35184372088832 then (codemasonref_Machine.l0 k l0 (List.replicate 6 0) l1 (l1.length : Int) 0) else (none)) = some (r1, r2) := h
  clear h
  by_cases c3 : 6 ≤ 35184372088832
  · rw [if_pos c3] at H
    have c3b0 := eq_true c3
    have c3b1 : decide (6 ≤ 35184372088832) = true := decide_eq_true c3
    clear c3
    obtain ⟨y484, hy484⟩ : ∃ y_ : List Int, y_ = (List.replicate 6 0) := ⟨_, rfl⟩
    replace H : (codemasonref_Machine.l0 k l0 y484 l1 (l1.length : Int) 0) = some (r1, r2) := by first | (rw [hy484]; with_reducible exact H) | (have H2_ := (Option.bind_some _ _).symm.trans H; rw [hy484]; with_reducible exact H2_) | (have H2_ := (Option.bind_some _ _).symm.trans H; with_reducible exact H2_) | with_reducible exact H | (rw [hy484]; exact H) | exact H
    have Ny484 := Aside0.mk hy484
    clear hy484
    have H' := Aside0.mk H
    clear H
    go_enter Try.func44, Try.ntmps44
    go_wp2_with (first | ((with_reducible refine gate_dst (N := 17) rfl ?_); (try (refine gate_guard (by rfl) ?_; dsimp only)); refine Kd.R_make (Kd.int .i64) _ 3 rfl (N := 17) rfl 23 _ _ rfl 6 rfl rfl Try.underlying23 (.int .i64 0) 8 info3 rfl (by decide) (by omega) 0 (ok := fun _ => True) (okp := fun _ => True) rfl (fun _ hk => hk) trivial (by omega) (by omega) (Below.refl _ _) (Nat.le_refl _) ?_; intro v485 w4 ho5 hb hg_ hnew_; clear hg_ hnew_; (first | rw [← Ny484.out] at ho5 | (simp only [Int.reduceToNat] at ho5; rw [← Ny484.out] at ho5)); have n0_ := Aside0.mk (Kd.R_lower ho5 (below_size (by repeat (first | (with_reducible first | exact HB.out | apply below_alloc | apply pw_below_drewN | apply below_drew1) | exact HB.out)))); have n1_ := Aside0.mk (below_step (by repeat (first | (with_reducible first | exact HB.out | apply below_alloc | apply pw_below_drewN | apply below_drew1) | exact HB.out)) hb); clear HB; have HO486 := n0_; have HB := n1_; clear n0_ n1_; clear hb ho5))
    repeat (go_quiet (first | ((with_reducible refine gate_dst (N := 17) rfl ?_); (try (refine gate_guard (by rfl) ?_; dsimp only)); refine Kd.R_make (Kd.int .i64) _ 3 rfl (N := 17) rfl 23 _ _ rfl 6 rfl rfl Try.underlying23 (.int .i64 0) 8 info3 rfl (by decide) (by omega) 0 (ok := fun _ => True) (okp := fun _ => True) rfl (fun _ hk => hk) trivial (by omega) (by omega) (Below.refl _ _) (Nat.le_refl _) ?_; intro v485 w4 ho5 hb hg_ hnew_; clear hg_ hnew_; (first | rw [← Ny484.out] at ho5 | (simp only [Int.reduceToNat] at ho5; rw [← Ny484.out] at ho5)); have n0_ := Aside0.mk (Kd.R_lower ho5 (below_size (by repeat (first | (with_reducible first | exact HB.out | apply below_alloc | apply pw_below_drewN | apply below_drew1) | exact HB.out)))); have n1_ := Aside0.mk (below_step (by repeat (first | (with_reducible first | exact HB.out | apply below_alloc | apply pw_below_drewN | apply below_drew1) | exact HB.out)) hb); clear HB; have HO486 := n0_; have HB := n1_; clear n0_ n1_; clear hb ho5)); try go_wp2_with (first | ((with_reducible refine gate_dst (N := 17) rfl ?_); (try (refine gate_guard (by rfl) ?_; dsimp only)); refine Kd.R_make (Kd.int .i64) _ 3 rfl (N := 17) rfl 23 _ _ rfl 6 rfl rfl Try.underlying23 (.int .i64 0) 8 info3 rfl (by decide) (by omega) 0 (ok := fun _ => True) (okp := fun _ => True) rfl (fun _ hk => hk) trivial (by omega) (by omega) (Below.refl _ _) (Nat.le_refl _) ?_; intro v485 w4 ho5 hb hg_ hnew_; clear hg_ hnew_; (first | rw [← Ny484.out] at ho5 | (simp only [Int.reduceToNat] at ho5; rw [← Ny484.out] at ho5)); have n0_ := Aside0.mk (Kd.R_lower ho5 (below_size (by repeat (first | (with_reducible first | exact HB.out | apply below_alloc | apply pw_below_drewN | apply below_drew1) | exact HB.out)))); have n1_ := Aside0.mk (below_step (by repeat (first | (with_reducible first | exact HB.out | apply below_alloc | apply pw_below_drewN | apply below_drew1) | exact HB.out)) hb); clear HB; have HO486 := n0_; have HB := n1_; clear n0_ n1_; clear hb ho5)))
    go_loopg [20] k (fun kq v20 w' => ∃ (x6_1 : List Int) (x20_1 : Int), v20 = .int .i64 x20_1 ∧ Aside0 (codemasonref_Machine.l0 kq l0 x6_1 l1 (l1.length : Int) x20_1 = some (r1, r2)) ∧ Aside0 (kq ≤ k) ∧ Aside0 (Kd.R (Kd.int .i64) 3 w' w.heap.size (fun _ => True) v485 x6_1) ∧ Aside0 (Below w.heap.size w w'))
    case atStart => exact ⟨(y484), (0), (by first | rfl | (simp; done) | (simp [*]; done)), H', ⟨Nat.le_refl _⟩, ⟨by (with_reducible repeat (first | apply Kd.R_alloc | apply Kd.R_drewN | apply Kd.R_drew)); exact HO486.out⟩, ⟨by repeat (first | (with_reducible first | exact HB.out | apply below_alloc | apply pw_below_drewN | apply below_drew1) | exact HB.out)⟩⟩
    case round =>
      clear H'
      try clear c1
      try clear p2
      try clear c3
      try clear c3b0
      try clear c3b1
      try clear c4
      obtain ⟨x6_1, x20_1, rfl, HA, HK1, HO_6, HB⟩ := hrel
      cases gk with
      | zero => exact absurd HA.out (by simp [codemasonref_Machine.l0])
      | succ k1 =>
        have H := HA.out
        clear HA
        simp only [codemasonref_Machine.l0] at H
        by_cases c6 : x20_1 < (l1.length : Int)
        · rw [if_pos c6] at H
          have c6b0 : decide (x20_1 < (l1.length : Int)) = true := decide_eq_true c6
          clear c6
          by_cases c7 : 0 ≤ x20_1
          · rw [if_pos c7] at H
            have c7b0 : decide (0 ≤ x20_1) = true := decide_eq_true c7
            clear c7
            by_cases c8 : x20_1 < (l1.length : Int)
            · rw [if_pos c8] at H
              have c8b0 : decide (x20_1 < (l1.length : Int)) = true := decide_eq_true c8
              clear c8
              by_cases c9 : x20_1 < (x6_1.length : Int)
              · rw [if_pos c9] at H
                have c9b0 : decide (x20_1 < (x6_1.length : Int)) = true := decide_eq_true c9
                clear c9
                obtain ⟨y488, hy488⟩ : ∃ y_ : List Int, y_ = (x6_1.set (x20_1 : Int).toNat (rd l1 x20_1)) := ⟨_, rfl⟩
                replace H : (codemasonref_Machine.l0 k1 l0 y488 l1 (l1.length : Int) (wrap64 (x20_1 + 1))) = some (r1, r2) := by first | (rw [hy488]; with_reducible exact H) | (have H2_ := (Option.bind_some _ _).symm.trans H; rw [hy488]; with_reducible exact H2_) | (have H2_ := (Option.bind_some _ _).symm.trans H; with_reducible exact H2_) | with_reducible exact H | (rw [hy488]; exact H) | exact H
                have Ny488 := Aside0.mk hy488
                clear hy488
                have H' := Aside0.mk H
                clear H
                have p487 : 0 ≤ (x20_1 : Int) := of_decide_eq_true (by first | (with_reducible assumption) | assumption)
                have q487 : x20_1 < (l1.length : Int) := of_decide_eq_true (by first | (with_reducible assumption) | assumption)
                obtain ⟨ad487, e487, hx487_0⟩ := Kd.at_int HR1.out x20_1 p487 q487
                cases e487
                replace hx487_0 := (HB.out.cell (World.block_lt_of_cell? w _ hx487_0)).trans hx487_0
                replace p487 := eq_true p487
                replace q487 := eq_true q487
                have p10 : 0 ≤ (x20_1 : Int) := of_decide_eq_true (by first | (with_reducible assumption) | assumption)
                have q10 : (x20_1 : Int) < ((x6_1.length : Int) : Int) := of_decide_eq_true (by first | (with_reducible assumption) | assumption)
                obtain ⟨go10, co10, eo10, gb10, gl10, cl10, HG10⟩ := Kd.R_form HO_6.out (by omega)
                (first | cases eo10 | (injection eo10 with ea_ en_ ec_; (first | subst ea_ | (injection ea_ with ea_; subst ea_)); subst ec_; clear en_))
                have GB10 := Aside0.mk gb10
                have GG10 := Aside0.mk HG10
                clear gb10 gl10 HG10
                obtain ⟨hx10_0, hf10_0⟩ := Kd.R_celln 0 HO_6.out (x20_1 : Int) p10 q10
                replace p10 := eq_true p10
                replace q10 := eq_true q10
                have HP11 := Kd.R_putg HO_6.out (x20_1 : Int) (rd l1 x20_1)
                go_wp2_with (first | ((with_reducible refine gate_store (t := 3) (p := 28) rfl ?_); (try (rw [drewN_self wr]; generalize hq_ : World.drewN wr _ = wr; have n0_ := Aside0.mk (Kd.R_at hq_ HO_6.out); have n1_ := Aside0.mk (below_at hq_ HB.out); clear hq_ HO_6 HB; have HO_6 := n0_; have HB := n1_; clear n0_ n1_; (try (have HP11 := Kd.R_putg HO_6.out (x20_1 : Int) (rd l1 x20_1))))); refine store_event (t := 3) (p := 28) (v := ?vo_w12) (w1 := (wr.setCell ⟨go10, (x20_1 : Int).toNat, none⟩ (.int .i64 (rd l1 x20_1)))) ?hg ?ho ?hn ?hr ?_; (case ho => rfl); (case hg => rfl); (case hn => rfl); (case hr => first | (go_simp; done) | (go_simp; rfl)); intro w12 hw; have hg : wr.grownBy w12 (some go10) := (by rw [hw]; exact HP11.2); have hp_ : Kd.R (Kd.int .i64) 3 w12 w.heap.size (fun _ => True) (.slice (some ⟨go10, 0, none⟩) x6_1.length co10) y488 := (by rw [hw, Ny488.out]; exact HP11.1); clear HP11; have n0_ := Aside0.mk (hp_); have n1_ := Aside0.mk ((by rw [hw]; exact below_set (HB.out) GB10.out : Below w.heap.size w w12)); clear HO_6; clear HB; have HO_6 := n0_; have HB := n1_; clear n0_ n1_; clear hg hw hp_))
                repeat (go_quiet (first | ((with_reducible refine gate_store (t := 3) (p := 28) rfl ?_); (try (rw [drewN_self wr]; generalize hq_ : World.drewN wr _ = wr; have n0_ := Aside0.mk (Kd.R_at hq_ HO_6.out); have n1_ := Aside0.mk (below_at hq_ HB.out); clear hq_ HO_6 HB; have HO_6 := n0_; have HB := n1_; clear n0_ n1_; (try (have HP11 := Kd.R_putg HO_6.out (x20_1 : Int) (rd l1 x20_1))))); refine store_event (t := 3) (p := 28) (v := ?vo_w12) (w1 := (wr.setCell ⟨go10, (x20_1 : Int).toNat, none⟩ (.int .i64 (rd l1 x20_1)))) ?hg ?ho ?hn ?hr ?_; (case ho => rfl); (case hg => rfl); (case hn => rfl); (case hr => first | (go_simp; done) | (go_simp; rfl)); intro w12 hw; have hg : wr.grownBy w12 (some go10) := (by rw [hw]; exact HP11.2); have hp_ : Kd.R (Kd.int .i64) 3 w12 w.heap.size (fun _ => True) (.slice (some ⟨go10, 0, none⟩) x6_1.length co10) y488 := (by rw [hw, Ny488.out]; exact HP11.1); clear HP11; have n0_ := Aside0.mk (hp_); have n1_ := Aside0.mk ((by rw [hw]; exact below_set (HB.out) GB10.out : Below w.heap.size w w12)); clear HO_6; clear HB; have HO_6 := n0_; have HB := n1_; clear n0_ n1_; clear hg hw hp_)); try go_wp2_with (first | ((with_reducible refine gate_store (t := 3) (p := 28) rfl ?_); (try (rw [drewN_self wr]; generalize hq_ : World.drewN wr _ = wr; have n0_ := Aside0.mk (Kd.R_at hq_ HO_6.out); have n1_ := Aside0.mk (below_at hq_ HB.out); clear hq_ HO_6 HB; have HO_6 := n0_; have HB := n1_; clear n0_ n1_; (try (have HP11 := Kd.R_putg HO_6.out (x20_1 : Int) (rd l1 x20_1))))); refine store_event (t := 3) (p := 28) (v := ?vo_w12) (w1 := (wr.setCell ⟨go10, (x20_1 : Int).toNat, none⟩ (.int .i64 (rd l1 x20_1)))) ?hg ?ho ?hn ?hr ?_; (case ho => rfl); (case hg => rfl); (case hn => rfl); (case hr => first | (go_simp; done) | (go_simp; rfl)); intro w12 hw; have hg : wr.grownBy w12 (some go10) := (by rw [hw]; exact HP11.2); have hp_ : Kd.R (Kd.int .i64) 3 w12 w.heap.size (fun _ => True) (.slice (some ⟨go10, 0, none⟩) x6_1.length co10) y488 := (by rw [hw, Ny488.out]; exact HP11.1); clear HP11; have n0_ := Aside0.mk (hp_); have n1_ := Aside0.mk ((by rw [hw]; exact below_set (HB.out) GB10.out : Below w.heap.size w w12)); clear HO_6; clear HB; have HO_6 := n0_; have HB := n1_; clear n0_ n1_; clear hg hw hp_)))
                go_roundg k1
                case measure => have := HK1.out; omega
                case rel => exact ⟨(y488), (wrap64 (x20_1 + 1)), (by first | rfl | (simp; done) | (simp [*]; done)), H', ⟨by have := HK1.out; omega⟩, ⟨by (with_reducible repeat (first | apply Kd.R_alloc | apply Kd.R_drewN | apply Kd.R_drew)); exact HO_6.out⟩, ⟨by repeat (first | (with_reducible first | exact HB.out | apply below_alloc | apply pw_below_drewN | apply below_drew1) | exact HB.out)⟩⟩
              · rw [if_neg c9] at H
                exact absurd H (by simp)
            · rw [if_neg c8] at H
              exact absurd H (by simp)
          · rw [if_neg c7] at H
            exact absurd H (by simp)
        · rw [if_neg c6] at H
          have c6b0 : decide (x20_1 < (l1.length : Int)) = false := decide_eq_false c6
          clear c6
          have H' := Aside0.mk H
          clear H
          go_wp2
          repeat (go_quiet (fail); try go_wp2)
          go_loopg [9, 10, 11] k1 (fun kq v9 v10 v11 w' => ∃ (x6_2 : List Int) (x9_2 : Int) (x10_2 : Int) (x11_2 : Int), v9 = .int .i64 x9_2 ∧ v10 = .int .i64 x10_2 ∧ v11 = .int .i64 x11_2 ∧ Aside0 (codemasonref_Machine.l1 kq l0 x6_2 x9_2 x10_2 x11_2 = some (r1, r2)) ∧ Aside0 (kq ≤ k1) ∧ Aside0 (Kd.R (Kd.int .i64) 3 w' w.heap.size (fun _ => True) v485 x6_2) ∧ Aside0 (Below w.heap.size w w'))
          case atStart => exact ⟨(x6_1), (0), (0), (0), (by first | rfl | (simp; done) | (simp [*]; done)), (by first | rfl | (simp; done) | (simp [*]; done)), (by first | rfl | (simp; done) | (simp [*]; done)), H', ⟨Nat.le_refl _⟩, ⟨by (with_reducible repeat (first | apply Kd.R_alloc | apply Kd.R_drewN | apply Kd.R_drew)); exact HO_6.out⟩, ⟨by repeat (first | (with_reducible first | exact HB.out | apply below_alloc | apply pw_below_drewN | apply below_drew1) | exact HB.out)⟩⟩
          case round =>
            clear H'
            try clear c1
            try clear p1
            try clear q1
            try clear hx1
            try clear p2
            try clear c3
            try clear c3b0
            try clear c3b1
            try clear c4
            try clear p4
            try clear q4
            try clear hx4
            try clear c6
            try clear c6b0
            try clear p6
            try clear c7
            try clear c7b0
            try clear c8
            try clear c8b0
            try clear c9
            try clear c9b0
            try clear p10
            try clear q10
            try clear hx10
            try clear hf10
            try clear hx10_0
            try clear hx487_0
            try clear p10
            try clear p2
            try clear p487
            try clear q10
            try clear q487
            obtain ⟨x6_2, x9_2, x10_2, x11_2, rfl, rfl, rfl, HA, HK2, HO_6, HB⟩ := hrel
            cases gk with
            | zero => exact absurd HA.out (by simp [codemasonref_Machine.l1])
            | succ k2 =>
              have H := HA.out
              clear HA
              simp only [codemasonref_Machine.l1] at H
              by_cases c13 : x11_2 < 20000
              · rw [if_pos c13] at H
                have c13b0 : decide (x11_2 < 20000) = true := decide_eq_true c13
                clear c13
                by_cases c14 : x9_2 ≥ (l0.length : Int)
                · rw [if_pos c14] at H
                  have c14b0 : decide ((l0.length : Int) ≤ x9_2) = true := decide_eq_true c14
                  clear c14
                  simp only [Option.some.injEq, Prod.mk.injEq] at H
                  obtain ⟨rfl, rfl⟩ := H
                  go_wp2
                  repeat (go_quiet (fail); try go_wp2)
                  go_ret2
                  exact ⟨_, by first | rfl | (simp [errW_none, errW_some] <;> rfl) | (simp [*, errW_none, errW_some] <;> rfl), by first | exact Kd.R_nil _ _ _ _ _ | exact Kd.N_nil _ _ _ _ _ | exact Kd.V_nil _ _ _ _ _ | exact Kd.Q_nil _ _ _ _ _ | exact Kd.S_nil _ _ _ _ _, by repeat (first | (with_reducible first | exact HB.out | apply below_alloc | apply pw_below_drewN | apply below_drew1) | exact HB.out)⟩
                · rw [if_neg c14] at H
                  have c14b0 : decide ((l0.length : Int) ≤ x9_2) = false := decide_eq_false c14
                  clear c14
                  by_cases c15 : 0 ≤ x9_2
                  · rw [if_pos c15] at H
                    have c15b0 : decide (0 ≤ x9_2) = true := decide_eq_true c15
                    clear c15
                    by_cases c16 : x9_2 < (l0.length : Int)
                    · rw [if_pos c16] at H
                      have c16b0 : decide (x9_2 < (l0.length : Int)) = true := decide_eq_true c16
                      clear c16
                      replace H := Option.bind_eq_some_iff.mp H
                      obtain ⟨t490, A170, H⟩ := H
                      replace H : (if t490 = 0 then (codemasonref_Machine.j2 k2 l0 x6_2 x9_2 x10_2 x11_2 t490 true) else (codemasonref_Machine.j2 k2 l0 x6_2 x9_2 x10_2 x11_2 t490 (decide ((wrap64 (x9_2 + t490)) > (l0.length : Int))))) = some (r1, r2) := H
                      have A17 := Aside0.mk A170
                      clear A170
                      have HC18 := Aside0.mk H
                      clear H
                      have p489 : 0 ≤ (x9_2 : Int) := of_decide_eq_true (by first | (with_reducible assumption) | assumption)
                      have q489 : x9_2 < (l0.length : Int) := of_decide_eq_true (by first | (with_reducible assumption) | assumption)
                      obtain ⟨ad489, e489, hx489_0⟩ := Kd.at_int HR0.out x9_2 p489 q489
                      cases e489
                      replace hx489_0 := (HB.out.cell (World.block_lt_of_cell? w _ hx489_0)).trans hx489_0
                      replace p489 := eq_true p489
                      replace q489 := eq_true q489
                      go_upto_region 15 with (first | (go_at_call 104; (with_reducible refine (codemasonref_OrderSize.calls (rd l0 x9_2) t490 _ A17.out).mono ?_); rintro e w19 ⟨rfl, hb⟩; have n0_ := Aside0.mk (Kd.R_below (by (with_reducible repeat (first | apply Kd.R_alloc | apply Kd.R_drewN | apply Kd.R_drew)); exact HO_6.out) hb); have n1_ := Aside0.mk (below_step (by repeat (first | (with_reducible first | exact HB.out | apply below_alloc | apply pw_below_drewN | apply below_drew1) | exact HB.out)) hb); clear HO_6; clear HB; have HO_6 := n0_; have HB := n1_; clear n0_ n1_; (try clear hb); (try clear hb2); (try clear hk); (try clear hi)))
                      repeat (go_quiet (first | (go_at_call 104; (with_reducible refine (codemasonref_OrderSize.calls (rd l0 x9_2) t490 _ A17.out).mono ?_); rintro e w19 ⟨rfl, hb⟩; have n0_ := Aside0.mk (Kd.R_below (by (with_reducible repeat (first | apply Kd.R_alloc | apply Kd.R_drewN | apply Kd.R_drew)); exact HO_6.out) hb); have n1_ := Aside0.mk (below_step (by repeat (first | (with_reducible first | exact HB.out | apply below_alloc | apply pw_below_drewN | apply below_drew1) | exact HB.out)) hb); clear HO_6; clear HB; have HO_6 := n0_; have HB := n1_; clear n0_ n1_; (try clear hb); (try clear hb2); (try clear hk); (try clear hi))); go_upto_region 15 with (first | (go_at_call 104; (with_reducible refine (codemasonref_OrderSize.calls (rd l0 x9_2) t490 _ A17.out).mono ?_); rintro e w19 ⟨rfl, hb⟩; have n0_ := Aside0.mk (Kd.R_below (by (with_reducible repeat (first | apply Kd.R_alloc | apply Kd.R_drewN | apply Kd.R_drew)); exact HO_6.out) hb); have n1_ := Aside0.mk (below_step (by repeat (first | (with_reducible first | exact HB.out | apply below_alloc | apply pw_below_drewN | apply below_drew1) | exact HB.out)) hb); clear HO_6; clear HB; have HO_6 := n0_; have HB := n1_; clear n0_ n1_; (try clear hb); (try clear hb2); (try clear hk); (try clear hi))))
                      (try simp only [Act.put, List.setIfInBounds_toArray, List.set_cons_zero, List.set_cons_succ])
                      go_cut [52] (fun v52 wc => ∃ (kq : Nat) (x52_17 : Bool), v52 = .bool x52_17 ∧ Aside0 (codemasonref_Machine.j2 kq l0 x6_2 x9_2 x10_2 x11_2 t490 x52_17 = some (r1, r2)) ∧ Aside0 (kq ≤ k2) ∧ Aside0 (Kd.R (Kd.int .i64) 3 wc w.heap.size (fun _ => True) v485 x6_2) ∧ Aside0 (Below w.heap.size w wc))
                      case first =>
                        have H := HC18.out
                        clear HC18
                        by_cases c20 : t490 = 0
                        · rw [if_pos c20] at H
                          have c20b0 : (t490 == 0) = true := beq_iff_eq.mpr c20
                          have c20b1 : (t490 != 0) = false := bne_eq_false_iff_eq.mpr c20
                          clear c20
                          (first | rw [c20b0] | (simp only [i64_w, i32_w]; rw [c20b0]) | skip)
                          have H' := Aside0.mk H
                          clear H
                          go_wp2
                          repeat (go_quiet (fail); try go_wp2)
                          go_meet
                          case rel => exact ⟨_, (true), (by first | rfl | (simp; done) | (simp [*]; done)), H', ⟨by have := HK1.out; have := HK2.out; first | omega | exact Nat.le_refl _⟩, ⟨by (with_reducible repeat (first | apply Kd.R_alloc | apply Kd.R_drewN | apply Kd.R_drew)); exact HO_6.out⟩, ⟨by repeat (first | (with_reducible first | exact HB.out | apply below_alloc | apply pw_below_drewN | apply below_drew1) | exact HB.out)⟩⟩
                        · rw [if_neg c20] at H
                          have c20b0 : (t490 == 0) = false := beq_eq_false_iff_ne.mpr c20
                          have c20b1 : (t490 != 0) = true := bne_iff_ne.mpr c20
                          (first | rw [c20b0] | (simp only [i64_w, i32_w]; rw [c20b0]) | skip)
                          have H' := Aside0.mk H
                          clear H
                          go_wp2
                          repeat (go_quiet (fail); try go_wp2)
                          go_meet
                          case rel => exact ⟨_, (decide ((wrap64 (x9_2 + t490)) > (l0.length : Int))), (by first | rfl | (simp; done) | (simp [*]; done)), H', ⟨by have := HK1.out; have := HK2.out; first | omega | exact Nat.le_refl _⟩, ⟨by (with_reducible repeat (first | apply Kd.R_alloc | apply Kd.R_drewN | apply Kd.R_drew)); exact HO_6.out⟩, ⟨by repeat (first | (with_reducible first | exact HB.out | apply below_alloc | apply pw_below_drewN | apply below_drew1) | exact HB.out)⟩⟩
                      case rest =>
                        clear HC18
                        try clear c1
                        try clear p1
                        try clear q1
                        try clear hx1
                        try clear c2
                        try clear p2
                        try clear c3
                        try clear c3b0
                        try clear c3b1
                        try clear c4
                        try clear p4
                        try clear q4
                        try clear hx4
                        try clear c6
                        try clear c6b0
                        try clear p6
                        try clear c7
                        try clear c7b0
                        try clear c8
                        try clear c8b0
                        try clear c9
                        try clear c9b0
                        try clear p10
                        try clear q10
                        try clear hx10
                        try clear hf10
                        try clear c13
                        try clear c13b0
                        try clear c14
                        try clear c14b0
                        try clear c15
                        try clear c15b0
                        try clear c16
                        try clear c16b0
                        try clear c20
                        try clear c20b0
                        try clear c20b1
                        try clear hx10_0
                        try clear hx487_0
                        try clear hx489_0
                        try clear p1
                        try clear p10
                        try clear p2
                        try clear p4
                        try clear p487
                        try clear p489
                        try clear p6
                        try clear q1
                        try clear q10
                        try clear q4
                        try clear q487
                        try clear q489
                        obtain ⟨kq, x52_17, rfl, HA, HJ17, HO_6, HB⟩ := hcut
                        cases kq with
                        | zero => exact absurd HA.out (by simp [codemasonref_Machine.j2])
                        | succ kj17 =>
                          have H := HA.out
                          clear HA
                          simp only [codemasonref_Machine.j2] at H
                          by_cases c21 : x52_17 = true
                          · subst c21
                            have H1 : (some (([] : List Int), 6)) = some (r1, r2) := by rw [if_pos rfl] at H; exact H
                            clear H
                            have H := H1
                            clear H1
                            simp only [Option.some.injEq, Prod.mk.injEq] at H
                            obtain ⟨rfl, rfl⟩ := H
                            go_wp2
                            repeat (go_quiet (fail); try go_wp2)
                            go_ret2
                            exact ⟨_, by first | rfl | (simp [errW_none, errW_some] <;> rfl) | (simp [*, errW_none, errW_some] <;> rfl), by first | exact Kd.R_nil _ _ _ _ _ | exact Kd.N_nil _ _ _ _ _ | exact Kd.V_nil _ _ _ _ _ | exact Kd.Q_nil _ _ _ _ _ | exact Kd.S_nil _ _ _ _ _, by repeat (first | (with_reducible first | exact HB.out | apply below_alloc | apply pw_below_drewN | apply below_drew1) | exact HB.out)⟩
                          · replace c21 := Bool.eq_false_iff.mpr c21
                            subst c21
                            have H1 : (if 0 ≤ x9_2 then (if x9_2 < (l0.length : Int) then (if t490 = 3 then (if 0 ≤ (wrap64 (x9_2 + 1)) then (if (wrap64 (x9_2 + 1)) < (l0.length : Int) then (if 0 ≤ (wrap64 (x9_2 + 2)) then (if (wrap64 (x9_2 + 2)) < (l0.length : Int) then (codemasonref_Machine.j3 kj17 l0 x6_2 x9_2 x10_2 x11_2 t490 (wrap64 (Int.tdiv (wrap64 (rd l0 x9_2)) 8)) (Int.tmod (wrap64 (rd l0 x9_2)) 8) (wrap64 ((wrap64 (rd l0 (wrap64 (x9_2 + 1)))) + (wrap64 (256 * (wrap64 (rd l0 (wrap64 (x9_2 + 2))))))))) else (none)) else (none)) else (none)) else (none)) else (codemasonref_Machine.j3 kj17 l0 x6_2 x9_2 x10_2 x11_2 t490 (wrap64 (Int.tdiv (wrap64 (rd l0 x9_2)) 8)) (Int.tmod (wrap64 (rd l0 x9_2)) 8) 0)) else (none)) else (none)) = some (r1, r2) := by rw [if_neg (show ¬ (false = true) by decide)] at H; exact H
                            clear H
                            have H := H1
                            clear H1
                            by_cases c22 : 0 ≤ x9_2
                            · rw [if_pos c22] at H
                              have c22b0 : decide (0 ≤ x9_2) = true := decide_eq_true c22
                              clear c22
                              by_cases c23 : x9_2 < (l0.length : Int)
                              · rw [if_pos c23] at H
                                have c23b0 : decide (x9_2 < (l0.length : Int)) = true := decide_eq_true c23
                                clear c23
                                have HC24 := Aside0.mk H
                                clear H
                                have p491 : 0 ≤ (x9_2 : Int) := of_decide_eq_true (by first | (with_reducible assumption) | assumption)
                                have q491 : x9_2 < (l0.length : Int) := of_decide_eq_true (by first | (with_reducible assumption) | assumption)
                                obtain ⟨ad491, e491, hx491_0⟩ := Kd.at_int HR0.out x9_2 p491 q491
                                obtain rfl : ad489 = ad491 := (by injection e491)
                                replace hx491_0 := (HB.out.cell (World.block_lt_of_cell? w _ hx491_0)).trans hx491_0
                                replace p491 := eq_true p491
                                replace q491 := eq_true q491
                                have p492 : 0 ≤ (x9_2 : Int) := of_decide_eq_true (by first | (with_reducible assumption) | assumption)
                                have q492 : x9_2 < (l0.length : Int) := of_decide_eq_true (by first | (with_reducible assumption) | assumption)
                                obtain ⟨ad492, e492, hx492_0⟩ := Kd.at_int HR0.out x9_2 p492 q492
                                obtain rfl : ad489 = ad492 := (by injection e492)
                                replace hx492_0 := (HB.out.cell (World.block_lt_of_cell? w _ hx492_0)).trans hx492_0
                                replace p492 := eq_true p492
                                replace q492 := eq_true q492
                                go_upto_if 66 with (fail)
                                repeat (go_quiet (fail); go_upto_if 66 with (fail))
                                go_cut [15] (fun v15 wc => ∃ (kq : Nat) (x15_23 : Int), v15 = .int .i64 x15_23 ∧ Aside0 (codemasonref_Machine.j3 kq l0 x6_2 x9_2 x10_2 x11_2 t490 (wrap64 (Int.tdiv (wrap64 (rd l0 x9_2)) 8)) (Int.tmod (wrap64 (rd l0 x9_2)) 8) x15_23 = some (r1, r2)) ∧ Aside0 (kq ≤ kj17) ∧ Aside0 (Kd.R (Kd.int .i64) 3 wc w.heap.size (fun _ => True) v485 x6_2) ∧ Aside0 (Below w.heap.size w wc))
                                case first =>
                                  have H := HC24.out
                                  clear HC24
                                  by_cases c25 : t490 = 3
                                  · rw [if_pos c25] at H
                                    have c25b0 : (t490 == 3) = true := beq_iff_eq.mpr c25
                                    have c25b1 : (t490 != 3) = false := bne_eq_false_iff_eq.mpr c25
                                    clear c25
                                    (first | rw [c25b0] | (simp only [i64_w, i32_w]; rw [c25b0]) | skip)
                                    obtain ⟨ji26, hji26⟩ : ∃ j_ : Int, (wrap64 (x9_2 + 1)) = j_ := ⟨_, rfl⟩
                                    replace H : (if 0 ≤ (ji26) then (if (ji26) < (l0.length : Int) then (if 0 ≤ (wrap64 (x9_2 + 2)) then (if (wrap64 (x9_2 + 2)) < (l0.length : Int) then (codemasonref_Machine.j3 kj17 l0 x6_2 x9_2 x10_2 x11_2 t490 (wrap64 (Int.tdiv (wrap64 (rd l0 x9_2)) 8)) (Int.tmod (wrap64 (rd l0 x9_2)) 8) (wrap64 ((wrap64 (rd l0 (ji26))) + (wrap64 (256 * (wrap64 (rd l0 (wrap64 (x9_2 + 2))))))))) else (none)) else (none)) else (none)) else (none)) = some (r1, r2) := by first | (rw [hji26] at H; exact H) | (simp only [hji26] at H ⊢; exact H)
                                    have hji26w : (IntKind.i64.wrap (x9_2 + 1)) = ji26 := (i64_w _).trans hji26
                                    by_cases c27 : 0 ≤ (ji26)
                                    · rw [if_pos c27] at H
                                      have c27b0 : decide (0 ≤ (ji26)) = true := decide_eq_true c27
                                      clear c27
                                      by_cases c28 : (ji26) < (l0.length : Int)
                                      · rw [if_pos c28] at H
                                        have c28b0 : decide ((ji26) < (l0.length : Int)) = true := decide_eq_true c28
                                        clear c28
                                        obtain ⟨ji29, hji29⟩ : ∃ j_ : Int, (wrap64 (x9_2 + 2)) = j_ := ⟨_, rfl⟩
                                        replace H : (if 0 ≤ (ji29) then (if (ji29) < (l0.length : Int) then (codemasonref_Machine.j3 kj17 l0 x6_2 x9_2 x10_2 x11_2 t490 (wrap64 (Int.tdiv (wrap64 (rd l0 x9_2)) 8)) (Int.tmod (wrap64 (rd l0 x9_2)) 8) (wrap64 ((wrap64 (rd l0 (ji26))) + (wrap64 (256 * (wrap64 (rd l0 (ji29)))))))) else (none)) else (none)) = some (r1, r2) := by first | (rw [hji29] at H; exact H) | (simp only [hji29] at H ⊢; exact H)
                                        have hji29w : (IntKind.i64.wrap (x9_2 + 2)) = ji29 := (i64_w _).trans hji29
                                        by_cases c30 : 0 ≤ (ji29)
                                        · rw [if_pos c30] at H
                                          have c30b0 : decide (0 ≤ (ji29)) = true := decide_eq_true c30
                                          clear c30
                                          by_cases c31 : (ji29) < (l0.length : Int)
                                          · rw [if_pos c31] at H
                                            have c31b0 : decide ((ji29) < (l0.length : Int)) = true := decide_eq_true c31
                                            clear c31
                                            have H' := Aside0.mk H
                                            clear H
                                            have p493 : 0 ≤ ((ji26) : Int) := of_decide_eq_true (by first | (with_reducible assumption) | assumption)
                                            have q493 : (ji26) < (l0.length : Int) := of_decide_eq_true (by first | (with_reducible assumption) | assumption)
                                            obtain ⟨ad493, e493, hx493_0⟩ := Kd.at_int HR0.out (ji26) p493 q493
                                            obtain rfl : ad489 = ad493 := (by injection e493)
                                            replace hx493_0 := (HB.out.cell (World.block_lt_of_cell? w _ hx493_0)).trans hx493_0
                                            replace p493 := eq_true p493
                                            replace q493 := eq_true q493
                                            have p494 : 0 ≤ ((ji29) : Int) := of_decide_eq_true (by first | (with_reducible assumption) | assumption)
                                            have q494 : (ji29) < (l0.length : Int) := of_decide_eq_true (by first | (with_reducible assumption) | assumption)
                                            obtain ⟨ad494, e494, hx494_0⟩ := Kd.at_int HR0.out (ji29) p494 q494
                                            obtain rfl : ad489 = ad494 := (by injection e494)
                                            replace hx494_0 := (HB.out.cell (World.block_lt_of_cell? w _ hx494_0)).trans hx494_0
                                            replace p494 := eq_true p494
                                            replace q494 := eq_true q494
                                            go_wp2
                                            repeat (go_quiet (fail); try go_wp2)
                                            go_meet
                                            case rel => exact ⟨_, (wrap64 ((wrap64 (rd l0 (ji26))) + (wrap64 (256 * (wrap64 (rd l0 (ji29))))))), (by first | rfl | (simp; done) | (simp only [← hji26, ← hji29] <;> (first | rfl | simp)) | (simp [*]; done)), H', ⟨by have := HK1.out; have := HK2.out; have := HJ17.out; first | omega | exact Nat.le_refl _⟩, ⟨by (with_reducible repeat (first | apply Kd.R_alloc | apply Kd.R_drewN | apply Kd.R_drew)); exact HO_6.out⟩, ⟨by repeat (first | (with_reducible first | exact HB.out | apply below_alloc | apply pw_below_drewN | apply below_drew1) | exact HB.out)⟩⟩
                                          · rw [if_neg c31] at H
                                            exact absurd H (by simp)
                                        · rw [if_neg c30] at H
                                          exact absurd H (by simp)
                                      · rw [if_neg c28] at H
                                        exact absurd H (by simp)
                                    · rw [if_neg c27] at H
                                      exact absurd H (by simp)
                                  · rw [if_neg c25] at H
                                    have c25b0 : (t490 == 3) = false := beq_eq_false_iff_ne.mpr c25
                                    have c25b1 : (t490 != 3) = true := bne_iff_ne.mpr c25
                                    (first | rw [c25b0] | (simp only [i64_w, i32_w]; rw [c25b0]) | skip)
                                    have H' := Aside0.mk H
                                    clear H
                                    go_wp2
                                    repeat (go_quiet (fail); try go_wp2)
                                    go_meet
                                    case rel => exact ⟨_, (0), (by first | rfl | (simp; done) | (simp [*]; done)), H', ⟨by have := HK1.out; have := HK2.out; have := HJ17.out; first | omega | exact Nat.le_refl _⟩, ⟨by (with_reducible repeat (first | apply Kd.R_alloc | apply Kd.R_drewN | apply Kd.R_drew)); exact HO_6.out⟩, ⟨by repeat (first | (with_reducible first | exact HB.out | apply below_alloc | apply pw_below_drewN | apply below_drew1) | exact HB.out)⟩⟩
                                case rest =>
                                  clear HC24
                                  try clear c1
                                  try clear p1
                                  try clear q1
                                  try clear hx1
                                  try clear c2
                                  try clear p2
                                  try clear c3
                                  try clear c3b0
                                  try clear c3b1
                                  try clear c4
                                  try clear p4
                                  try clear q4
                                  try clear hx4
                                  try clear c6
                                  try clear c6b0
                                  try clear p6
                                  try clear c7
                                  try clear c7b0
                                  try clear c8
                                  try clear c8b0
                                  try clear c9
                                  try clear c9b0
                                  try clear p10
                                  try clear q10
                                  try clear hx10
                                  try clear hf10
                                  try clear c13
                                  try clear c13b0
                                  try clear c14
                                  try clear c14b0
                                  try clear c15
                                  try clear c15b0
                                  try clear c16
                                  try clear c16b0
                                  try clear c20
                                  try clear c20b0
                                  try clear c20b1
                                  try clear c21
                                  try clear c22
                                  try clear c22b0
                                  try clear c23
                                  try clear c23b0
                                  try clear c25
                                  try clear c25b0
                                  try clear c25b1
                                  try clear c27
                                  try clear c27b0
                                  try clear c28
                                  try clear c28b0
                                  try clear c30
                                  try clear c30b0
                                  try clear c31
                                  try clear c31b0
                                  try clear hx10_0
                                  try clear hx487_0
                                  try clear hx489_0
                                  try clear hx491_0
                                  try clear hx492_0
                                  try clear hx493_0
                                  try clear hx494_0
                                  try clear p1
                                  try clear p10
                                  try clear p2
                                  try clear p4
                                  try clear p487
                                  try clear p489
                                  try clear p491
                                  try clear p492
                                  try clear p493
                                  try clear p494
                                  try clear p6
                                  try clear q1
                                  try clear q10
                                  try clear q4
                                  try clear q487
                                  try clear q489
                                  try clear q491
                                  try clear q492
                                  try clear q493
                                  try clear q494
                                  obtain ⟨kq, x15_23, rfl, HA, HJ23, HO_6, HB⟩ := hcut
                                  cases kq with
                                  | zero => exact absurd HA.out (by simp [codemasonref_Machine.j3])
                                  | succ kj23 =>
                                    have H := HA.out
                                    clear HA
                                    simp only [codemasonref_Machine.j3] at H
                                    by_cases c32 : (wrap64 (Int.tdiv (wrap64 (rd l0 x9_2)) 8)) = 0
                                    · rw [if_pos c32] at H
                                      have c32b0 : ((wrap64 (Int.tdiv (wrap64 (rd l0 x9_2)) 8)) == 0) = true := beq_iff_eq.mpr c32
                                      have c32b1 : ((wrap64 (Int.tdiv (wrap64 (rd l0 x9_2)) 8)) != 0) = false := bne_eq_false_iff_eq.mpr c32
                                      clear c32
                                      simp only [Option.some.injEq, Prod.mk.injEq] at H
                                      obtain ⟨rfl, rfl⟩ := H
                                      go_wp2
                                      repeat (go_quiet (fail); try go_wp2)
                                      go_ret2
                                      exact ⟨_, by first | rfl | (simp [errW_none, errW_some] <;> rfl) | (simp [*, errW_none, errW_some] <;> rfl), by (with_reducible repeat (first | apply Kd.R_alloc | apply Kd.R_drewN | apply Kd.R_drew)); exact HO_6.out, by repeat (first | (with_reducible first | exact HB.out | apply below_alloc | apply pw_below_drewN | apply below_drew1) | exact HB.out)⟩
                                    · rw [if_neg c32] at H
                                      have c32b0 : ((wrap64 (Int.tdiv (wrap64 (rd l0 x9_2)) 8)) == 0) = false := beq_eq_false_iff_ne.mpr c32
                                      have c32b1 : ((wrap64 (Int.tdiv (wrap64 (rd l0 x9_2)) 8)) != 0) = true := bne_iff_ne.mpr c32
                                      by_cases c33 : (wrap64 (Int.tdiv (wrap64 (rd l0 x9_2)) 8)) = 1
                                      · rw [if_pos c33] at H
                                        have c33b0 : ((wrap64 (Int.tdiv (wrap64 (rd l0 x9_2)) 8)) == 1) = true := beq_iff_eq.mpr c33
                                        have c33b1 : ((wrap64 (Int.tdiv (wrap64 (rd l0 x9_2)) 8)) != 1) = false := bne_eq_false_iff_eq.mpr c33
                                        clear c33
                                        obtain ⟨ji34, hji34⟩ : ∃ j_ : Int, (wrap64 (x9_2 + 1)) = j_ := ⟨_, rfl⟩
                                        replace H : (if 0 ≤ (ji34) then (if (ji34) < (l0.length : Int) then (codemasonref_Machine.l1 kj23 l0 x6_2 (wrap64 (x9_2 + t490)) (wrap64 (rd l0 (ji34))) (wrap64 (x11_2 + 1))) else (none)) else (none)) = some (r1, r2) := by first | (rw [hji34] at H; exact H) | (simp only [hji34] at H ⊢; exact H)
                                        have hji34w : (IntKind.i64.wrap (x9_2 + 1)) = ji34 := (i64_w _).trans hji34
                                        by_cases c35 : 0 ≤ (ji34)
                                        · rw [if_pos c35] at H
                                          have c35b0 : decide (0 ≤ (ji34)) = true := decide_eq_true c35
                                          clear c35
                                          by_cases c36 : (ji34) < (l0.length : Int)
                                          · rw [if_pos c36] at H
                                            have c36b0 : decide ((ji34) < (l0.length : Int)) = true := decide_eq_true c36
                                            clear c36
                                            have H' := Aside0.mk H
                                            clear H
                                            have p495 : 0 ≤ ((ji34) : Int) := of_decide_eq_true (by first | (with_reducible assumption) | assumption)
                                            have q495 : (ji34) < (l0.length : Int) := of_decide_eq_true (by first | (with_reducible assumption) | assumption)
                                            obtain ⟨ad495, e495, hx495_0⟩ := Kd.at_int HR0.out (ji34) p495 q495
                                            obtain rfl : ad489 = ad495 := (by injection e495)
                                            replace hx495_0 := (HB.out.cell (World.block_lt_of_cell? w _ hx495_0)).trans hx495_0
                                            replace p495 := eq_true p495
                                            replace q495 := eq_true q495
                                            go_wp2
                                            repeat (go_quiet (fail); try go_wp2)
                                            go_roundg kj23
                                            case measure => have := HK1.out; have := HK2.out; have := HJ17.out; have := HJ23.out; omega
                                            case rel => exact ⟨(x6_2), (wrap64 (x9_2 + t490)), (wrap64 (rd l0 (ji34))), (wrap64 (x11_2 + 1)), (by first | rfl | (simp; done) | (simp [*]; done)), (by first | rfl | (simp; done) | (simp only [← hji34] <;> (first | rfl | simp)) | (simp [*]; done)), (by first | rfl | (simp; done) | (simp [*]; done)), H', ⟨by have := HK1.out; have := HK2.out; have := HJ17.out; have := HJ23.out; omega⟩, ⟨by (with_reducible repeat (first | apply Kd.R_alloc | apply Kd.R_drewN | apply Kd.R_drew)); exact HO_6.out⟩, ⟨by repeat (first | (with_reducible first | exact HB.out | apply below_alloc | apply pw_below_drewN | apply below_drew1) | exact HB.out)⟩⟩
                                          · rw [if_neg c36] at H
                                            exact absurd H (by simp)
                                        · rw [if_neg c35] at H
                                          exact absurd H (by simp)
                                      · rw [if_neg c33] at H
                                        have c33b0 : ((wrap64 (Int.tdiv (wrap64 (rd l0 x9_2)) 8)) == 1) = false := beq_eq_false_iff_ne.mpr c33
                                        have c33b1 : ((wrap64 (Int.tdiv (wrap64 (rd l0 x9_2)) 8)) != 1) = true := bne_iff_ne.mpr c33
                                        by_cases c37 : (wrap64 (Int.tdiv (wrap64 (rd l0 x9_2)) 8)) = 2
                                        · rw [if_pos c37] at H
                                          have c37b0 : ((wrap64 (Int.tdiv (wrap64 (rd l0 x9_2)) 8)) == 2) = true := beq_iff_eq.mpr c37
                                          have c37b1 : ((wrap64 (Int.tdiv (wrap64 (rd l0 x9_2)) 8)) != 2) = false := bne_eq_false_iff_eq.mpr c37
                                          clear c37
                                          obtain ⟨ji38, hji38⟩ : ∃ j_ : Int, (Int.tmod (wrap64 (rd l0 x9_2)) 8) = j_ := ⟨_, rfl⟩
                                          replace H : (if 0 ≤ (ji38) then (if (ji38) < (x6_2.length : Int) then (codemasonref_Machine.l1 kj23 l0 x6_2 (wrap64 (x9_2 + t490)) (rd x6_2 (ji38)) (wrap64 (x11_2 + 1))) else (none)) else (none)) = some (r1, r2) := by first | (rw [hji38] at H; exact H) | (simp only [hji38] at H ⊢; exact H)
                                          by_cases c39 : 0 ≤ (ji38)
                                          · rw [if_pos c39] at H
                                            have c39b0 : decide (0 ≤ (ji38)) = true := decide_eq_true c39
                                            clear c39
                                            by_cases c40 : (ji38) < (x6_2.length : Int)
                                            · rw [if_pos c40] at H
                                              have c40b0 : decide ((ji38) < (x6_2.length : Int)) = true := decide_eq_true c40
                                              clear c40
                                              have H' := Aside0.mk H
                                              clear H
                                              obtain ⟨Ao41, co41, eo41⟩ := Kd.R_slice HO_6.out
                                              subst eo41
                                              have p496 : 0 ≤ ((ji38) : Int) := of_decide_eq_true (by first | (with_reducible assumption) | assumption)
                                              have q496 : (ji38) < (x6_2.length : Int) := of_decide_eq_true (by first | (with_reducible assumption) | assumption)
                                              obtain ⟨ad496, e496, hx496_0⟩ := Kd.at_int (Kd.R_reads' HO_6.out).2.2 (ji38) p496 q496
                                              cases e496
                                              replace p496 := eq_true p496
                                              replace q496 := eq_true q496
                                              go_wp2
                                              repeat (go_quiet (fail); try go_wp2)
                                              go_roundg kj23
                                              case measure => have := HK1.out; have := HK2.out; have := HJ17.out; have := HJ23.out; omega
                                              case rel => exact ⟨(x6_2), (wrap64 (x9_2 + t490)), (rd x6_2 (ji38)), (wrap64 (x11_2 + 1)), (by first | rfl | (simp; done) | (simp [*]; done)), (by first | rfl | (simp; done) | (simp only [← hji38] <;> (first | rfl | simp)) | (simp [*]; done)), (by first | rfl | (simp; done) | (simp [*]; done)), H', ⟨by have := HK1.out; have := HK2.out; have := HJ17.out; have := HJ23.out; omega⟩, ⟨by (with_reducible repeat (first | apply Kd.R_alloc | apply Kd.R_drewN | apply Kd.R_drew)); exact HO_6.out⟩, ⟨by repeat (first | (with_reducible first | exact HB.out | apply below_alloc | apply pw_below_drewN | apply below_drew1) | exact HB.out)⟩⟩
                                            · rw [if_neg c40] at H
                                              exact absurd H (by simp)
                                          · rw [if_neg c39] at H
                                            exact absurd H (by simp)
                                        · rw [if_neg c37] at H
                                          have c37b0 : ((wrap64 (Int.tdiv (wrap64 (rd l0 x9_2)) 8)) == 2) = false := beq_eq_false_iff_ne.mpr c37
                                          have c37b1 : ((wrap64 (Int.tdiv (wrap64 (rd l0 x9_2)) 8)) != 2) = true := bne_iff_ne.mpr c37
                                          by_cases c42 : (wrap64 (Int.tdiv (wrap64 (rd l0 x9_2)) 8)) = 3
                                          · rw [if_pos c42] at H
                                            have c42b0 : ((wrap64 (Int.tdiv (wrap64 (rd l0 x9_2)) 8)) == 3) = true := beq_iff_eq.mpr c42
                                            have c42b1 : ((wrap64 (Int.tdiv (wrap64 (rd l0 x9_2)) 8)) != 3) = false := bne_eq_false_iff_eq.mpr c42
                                            clear c42
                                            obtain ⟨ji43, hji43⟩ : ∃ j_ : Int, (Int.tmod (wrap64 (rd l0 x9_2)) 8) = j_ := ⟨_, rfl⟩
                                            replace H : (if 0 ≤ (ji43) then (if (ji43) < (x6_2.length : Int) then (codemasonref_Machine.l1 kj23 l0 (x6_2.set ((ji43) : Int).toNat x10_2) (wrap64 (x9_2 + t490)) x10_2 (wrap64 (x11_2 + 1))) else (none)) else (none)) = some (r1, r2) := by first | (rw [hji43] at H; exact H) | (simp only [hji43] at H ⊢; exact H)
                                            by_cases c44 : 0 ≤ (ji43)
                                            · rw [if_pos c44] at H
                                              have c44b0 : decide (0 ≤ (ji43)) = true := decide_eq_true c44
                                              clear c44
                                              by_cases c45 : (ji43) < (x6_2.length : Int)
                                              · rw [if_pos c45] at H
                                                have c45b0 : decide ((ji43) < (x6_2.length : Int)) = true := decide_eq_true c45
                                                clear c45
                                                obtain ⟨y497, hy497⟩ : ∃ y_ : List Int, y_ = (x6_2.set ((ji43) : Int).toNat x10_2) := ⟨_, rfl⟩
                                                replace H : (codemasonref_Machine.l1 kj23 l0 y497 (wrap64 (x9_2 + t490)) x10_2 (wrap64 (x11_2 + 1))) = some (r1, r2) := by first | (rw [hy497]; with_reducible exact H) | (have H2_ := (Option.bind_some _ _).symm.trans H; rw [hy497]; with_reducible exact H2_) | (have H2_ := (Option.bind_some _ _).symm.trans H; with_reducible exact H2_) | with_reducible exact H | (rw [hy497]; exact H) | exact H
                                                have Ny497 := Aside0.mk hy497
                                                clear hy497
                                                have H' := Aside0.mk H
                                                clear H
                                                have p46 : 0 ≤ ((ji43) : Int) := of_decide_eq_true (by first | (with_reducible assumption) | assumption)
                                                have q46 : ((ji43) : Int) < ((x6_2.length : Int) : Int) := of_decide_eq_true (by first | (with_reducible assumption) | assumption)
                                                obtain ⟨go46, co46, eo46, gb46, gl46, cl46, HG46⟩ := Kd.R_form HO_6.out (by omega)
                                                (first | cases eo46 | (injection eo46 with ea_ en_ ec_; (first | subst ea_ | (injection ea_ with ea_; subst ea_)); subst ec_; clear en_))
                                                have GB46 := Aside0.mk gb46
                                                have GG46 := Aside0.mk HG46
                                                clear gb46 gl46 HG46
                                                obtain ⟨hx46_0, hf46_0⟩ := Kd.R_celln 0 HO_6.out ((ji43) : Int) p46 q46
                                                replace p46 := eq_true p46
                                                replace q46 := eq_true q46
                                                have HP47 := Kd.R_putg HO_6.out ((ji43) : Int) x10_2
                                                go_wp2_with (first | ((with_reducible refine gate_store (t := 3) (p := 116) rfl ?_); (try (rw [drewN_self wc]; generalize hq_ : World.drewN wc _ = wc; have n0_ := Aside0.mk (Kd.R_at hq_ HO_6.out); have n1_ := Aside0.mk (below_at hq_ HB.out); clear hq_ HO_6 HB; have HO_6 := n0_; have HB := n1_; clear n0_ n1_; (try (have HP47 := Kd.R_putg HO_6.out ((ji43) : Int) x10_2)))); refine store_event (t := 3) (p := 116) (v := ?vo_w48) (w1 := (wc.setCell ⟨go46, ((ji43) : Int).toNat, none⟩ (.int .i64 x10_2))) ?hg ?ho ?hn ?hr ?_; (case ho => rfl); (case hg => rfl); (case hn => rfl); (case hr => first | (go_simp; done) | (go_simp; rfl)); intro w48 hw; have hg : wc.grownBy w48 (some go46) := (by rw [hw]; exact HP47.2); have hp_ : Kd.R (Kd.int .i64) 3 w48 w.heap.size (fun _ => True) (.slice (some ⟨go46, 0, none⟩) x6_2.length co46) y497 := (by rw [hw, Ny497.out]; exact HP47.1); clear HP47; have n0_ := Aside0.mk (hp_); have n1_ := Aside0.mk ((by rw [hw]; exact below_set (HB.out) GB46.out : Below w.heap.size w w48)); clear HO_6; clear HB; have HO_6 := n0_; have HB := n1_; clear n0_ n1_; clear hg hw hp_))
                                                repeat (go_quiet (first | ((with_reducible refine gate_store (t := 3) (p := 116) rfl ?_); (try (rw [drewN_self wc]; generalize hq_ : World.drewN wc _ = wc; have n0_ := Aside0.mk (Kd.R_at hq_ HO_6.out); have n1_ := Aside0.mk (below_at hq_ HB.out); clear hq_ HO_6 HB; have HO_6 := n0_; have HB := n1_; clear n0_ n1_; (try (have HP47 := Kd.R_putg HO_6.out ((ji43) : Int) x10_2)))); refine store_event (t := 3) (p := 116) (v := ?vo_w48) (w1 := (wc.setCell ⟨go46, ((ji43) : Int).toNat, none⟩ (.int .i64 x10_2))) ?hg ?ho ?hn ?hr ?_; (case ho => rfl); (case hg => rfl); (case hn => rfl); (case hr => first | (go_simp; done) | (go_simp; rfl)); intro w48 hw; have hg : wc.grownBy w48 (some go46) := (by rw [hw]; exact HP47.2); have hp_ : Kd.R (Kd.int .i64) 3 w48 w.heap.size (fun _ => True) (.slice (some ⟨go46, 0, none⟩) x6_2.length co46) y497 := (by rw [hw, Ny497.out]; exact HP47.1); clear HP47; have n0_ := Aside0.mk (hp_); have n1_ := Aside0.mk ((by rw [hw]; exact below_set (HB.out) GB46.out : Below w.heap.size w w48)); clear HO_6; clear HB; have HO_6 := n0_; have HB := n1_; clear n0_ n1_; clear hg hw hp_)); try go_wp2_with (first | ((with_reducible refine gate_store (t := 3) (p := 116) rfl ?_); (try (rw [drewN_self wc]; generalize hq_ : World.drewN wc _ = wc; have n0_ := Aside0.mk (Kd.R_at hq_ HO_6.out); have n1_ := Aside0.mk (below_at hq_ HB.out); clear hq_ HO_6 HB; have HO_6 := n0_; have HB := n1_; clear n0_ n1_; (try (have HP47 := Kd.R_putg HO_6.out ((ji43) : Int) x10_2)))); refine store_event (t := 3) (p := 116) (v := ?vo_w48) (w1 := (wc.setCell ⟨go46, ((ji43) : Int).toNat, none⟩ (.int .i64 x10_2))) ?hg ?ho ?hn ?hr ?_; (case ho => rfl); (case hg => rfl); (case hn => rfl); (case hr => first | (go_simp; done) | (go_simp; rfl)); intro w48 hw; have hg : wc.grownBy w48 (some go46) := (by rw [hw]; exact HP47.2); have hp_ : Kd.R (Kd.int .i64) 3 w48 w.heap.size (fun _ => True) (.slice (some ⟨go46, 0, none⟩) x6_2.length co46) y497 := (by rw [hw, Ny497.out]; exact HP47.1); clear HP47; have n0_ := Aside0.mk (hp_); have n1_ := Aside0.mk ((by rw [hw]; exact below_set (HB.out) GB46.out : Below w.heap.size w w48)); clear HO_6; clear HB; have HO_6 := n0_; have HB := n1_; clear n0_ n1_; clear hg hw hp_)))
                                                go_roundg kj23
                                                case measure => have := HK1.out; have := HK2.out; have := HJ17.out; have := HJ23.out; omega
                                                case rel => exact ⟨(y497), (wrap64 (x9_2 + t490)), (x10_2), (wrap64 (x11_2 + 1)), (by first | rfl | (simp; done) | (simp [*]; done)), (by first | rfl | (simp; done) | (simp [*]; done)), (by first | rfl | (simp; done) | (simp [*]; done)), H', ⟨by have := HK1.out; have := HK2.out; have := HJ17.out; have := HJ23.out; omega⟩, ⟨by (with_reducible repeat (first | apply Kd.R_alloc | apply Kd.R_drewN | apply Kd.R_drew)); exact HO_6.out⟩, ⟨by repeat (first | (with_reducible first | exact HB.out | apply below_alloc | apply pw_below_drewN | apply below_drew1) | exact HB.out)⟩⟩
                                              · rw [if_neg c45] at H
                                                exact absurd H (by simp)
                                            · rw [if_neg c44] at H
                                              exact absurd H (by simp)
                                          · rw [if_neg c42] at H
                                            have c42b0 : ((wrap64 (Int.tdiv (wrap64 (rd l0 x9_2)) 8)) == 3) = false := beq_eq_false_iff_ne.mpr c42
                                            have c42b1 : ((wrap64 (Int.tdiv (wrap64 (rd l0 x9_2)) 8)) != 3) = true := bne_iff_ne.mpr c42
                                            by_cases c49 : (wrap64 (Int.tdiv (wrap64 (rd l0 x9_2)) 8)) = 8
                                            · rw [if_pos c49] at H
                                              have c49b0 : ((wrap64 (Int.tdiv (wrap64 (rd l0 x9_2)) 8)) == 8) = true := beq_iff_eq.mpr c49
                                              have c49b1 : ((wrap64 (Int.tdiv (wrap64 (rd l0 x9_2)) 8)) != 8) = false := bne_eq_false_iff_eq.mpr c49
                                              clear c49
                                              have H' := Aside0.mk H
                                              clear H
                                              go_wp2
                                              repeat (go_quiet (fail); try go_wp2)
                                              go_roundg kj23
                                              case measure => have := HK1.out; have := HK2.out; have := HJ17.out; have := HJ23.out; omega
                                              case rel => exact ⟨(x6_2), (x15_23), (x10_2), (wrap64 (x11_2 + 1)), (by first | rfl | (simp; done) | (simp [*]; done)), (by first | rfl | (simp; done) | (simp [*]; done)), (by first | rfl | (simp; done) | (simp [*]; done)), H', ⟨by have := HK1.out; have := HK2.out; have := HJ17.out; have := HJ23.out; omega⟩, ⟨by (with_reducible repeat (first | apply Kd.R_alloc | apply Kd.R_drewN | apply Kd.R_drew)); exact HO_6.out⟩, ⟨by repeat (first | (with_reducible first | exact HB.out | apply below_alloc | apply pw_below_drewN | apply below_drew1) | exact HB.out)⟩⟩
                                            · rw [if_neg c49] at H
                                              have c49b0 : ((wrap64 (Int.tdiv (wrap64 (rd l0 x9_2)) 8)) == 8) = false := beq_eq_false_iff_ne.mpr c49
                                              have c49b1 : ((wrap64 (Int.tdiv (wrap64 (rd l0 x9_2)) 8)) != 8) = true := bne_iff_ne.mpr c49
                                              by_cases c50 : (wrap64 (Int.tdiv (wrap64 (rd l0 x9_2)) 8)) = 9
                                              · rw [if_pos c50] at H
                                                have c50b0 : ((wrap64 (Int.tdiv (wrap64 (rd l0 x9_2)) 8)) == 9) = true := beq_iff_eq.mpr c50
                                                have c50b1 : ((wrap64 (Int.tdiv (wrap64 (rd l0 x9_2)) 8)) != 9) = false := bne_eq_false_iff_eq.mpr c50
                                                clear c50
                                                obtain ⟨ji51, hji51⟩ : ∃ j_ : Int, (Int.tmod (wrap64 (rd l0 x9_2)) 8) = j_ := ⟨_, rfl⟩
                                                replace H : (if 0 ≤ (ji51) then (if (ji51) < (x6_2.length : Int) then (if (rd x6_2 (ji51)) = 0 then (codemasonref_Machine.l1 kj23 l0 x6_2 x15_23 x10_2 (wrap64 (x11_2 + 1))) else (codemasonref_Machine.l1 kj23 l0 x6_2 (wrap64 (x9_2 + t490)) x10_2 (wrap64 (x11_2 + 1)))) else (none)) else (none)) = some (r1, r2) := by first | (rw [hji51] at H; exact H) | (simp only [hji51] at H ⊢; exact H)
                                                by_cases c52 : 0 ≤ (ji51)
                                                · rw [if_pos c52] at H
                                                  have c52b0 : decide (0 ≤ (ji51)) = true := decide_eq_true c52
                                                  clear c52
                                                  by_cases c53 : (ji51) < (x6_2.length : Int)
                                                  · rw [if_pos c53] at H
                                                    have c53b0 : decide ((ji51) < (x6_2.length : Int)) = true := decide_eq_true c53
                                                    clear c53
                                                    by_cases c54 : (rd x6_2 (ji51)) = 0
                                                    · rw [if_pos c54] at H
                                                      have c54b0 : ((rd x6_2 (ji51)) == 0) = true := beq_iff_eq.mpr c54
                                                      have c54b1 : ((rd x6_2 (ji51)) != 0) = false := bne_eq_false_iff_eq.mpr c54
                                                      clear c54
                                                      have H' := Aside0.mk H
                                                      clear H
                                                      obtain ⟨Ao55, co55, eo55⟩ := Kd.R_slice HO_6.out
                                                      subst eo55
                                                      have p498 : 0 ≤ ((ji51) : Int) := of_decide_eq_true (by first | (with_reducible assumption) | assumption)
                                                      have q498 : (ji51) < (x6_2.length : Int) := of_decide_eq_true (by first | (with_reducible assumption) | assumption)
                                                      obtain ⟨ad498, e498, hx498_0⟩ := Kd.at_int (Kd.R_reads' HO_6.out).2.2 (ji51) p498 q498
                                                      cases e498
                                                      replace p498 := eq_true p498
                                                      replace q498 := eq_true q498
                                                      go_wp2
                                                      repeat (go_quiet (fail); try go_wp2)
                                                      go_roundg kj23
                                                      case measure => have := HK1.out; have := HK2.out; have := HJ17.out; have := HJ23.out; omega
                                                      case rel => exact ⟨(x6_2), (x15_23), (x10_2), (wrap64 (x11_2 + 1)), (by first | rfl | (simp; done) | (simp [*]; done)), (by first | rfl | (simp; done) | (simp [*]; done)), (by first | rfl | (simp; done) | (simp [*]; done)), H', ⟨by have := HK1.out; have := HK2.out; have := HJ17.out; have := HJ23.out; omega⟩, ⟨by (with_reducible repeat (first | apply Kd.R_alloc | apply Kd.R_drewN | apply Kd.R_drew)); exact HO_6.out⟩, ⟨by repeat (first | (with_reducible first | exact HB.out | apply below_alloc | apply pw_below_drewN | apply below_drew1) | exact HB.out)⟩⟩
                                                    · rw [if_neg c54] at H
                                                      have c54b0 : ((rd x6_2 (ji51)) == 0) = false := beq_eq_false_iff_ne.mpr c54
                                                      have c54b1 : ((rd x6_2 (ji51)) != 0) = true := bne_iff_ne.mpr c54
                                                      have H' := Aside0.mk H
                                                      clear H
                                                      obtain ⟨Ao56, co56, eo56⟩ := Kd.R_slice HO_6.out
                                                      subst eo56
                                                      have p498 : 0 ≤ ((ji51) : Int) := of_decide_eq_true (by first | (with_reducible assumption) | assumption)
                                                      have q498 : (ji51) < (x6_2.length : Int) := of_decide_eq_true (by first | (with_reducible assumption) | assumption)
                                                      obtain ⟨ad498, e498, hx498_0⟩ := Kd.at_int (Kd.R_reads' HO_6.out).2.2 (ji51) p498 q498
                                                      cases e498
                                                      replace p498 := eq_true p498
                                                      replace q498 := eq_true q498
                                                      go_wp2
                                                      repeat (go_quiet (fail); try go_wp2)
                                                      go_roundg kj23
                                                      case measure => have := HK1.out; have := HK2.out; have := HJ17.out; have := HJ23.out; omega
                                                      case rel => exact ⟨(x6_2), (wrap64 (x9_2 + t490)), (x10_2), (wrap64 (x11_2 + 1)), (by first | rfl | (simp; done) | (simp [*]; done)), (by first | rfl | (simp; done) | (simp [*]; done)), (by first | rfl | (simp; done) | (simp [*]; done)), H', ⟨by have := HK1.out; have := HK2.out; have := HJ17.out; have := HJ23.out; omega⟩, ⟨by (with_reducible repeat (first | apply Kd.R_alloc | apply Kd.R_drewN | apply Kd.R_drew)); exact HO_6.out⟩, ⟨by repeat (first | (with_reducible first | exact HB.out | apply below_alloc | apply pw_below_drewN | apply below_drew1) | exact HB.out)⟩⟩
                                                  · rw [if_neg c53] at H
                                                    exact absurd H (by simp)
                                                · rw [if_neg c52] at H
                                                  exact absurd H (by simp)
                                              · rw [if_neg c50] at H
                                                have c50b0 : ((wrap64 (Int.tdiv (wrap64 (rd l0 x9_2)) 8)) == 9) = false := beq_eq_false_iff_ne.mpr c50
                                                have c50b1 : ((wrap64 (Int.tdiv (wrap64 (rd l0 x9_2)) 8)) != 9) = true := bne_iff_ne.mpr c50
                                                obtain ⟨ji57, hji57⟩ : ∃ j_ : Int, (Int.tmod (wrap64 (rd l0 x9_2)) 8) = j_ := ⟨_, rfl⟩
                                                replace H : (if 0 ≤ (ji57) then (if (ji57) < (x6_2.length : Int) then ((codemasonref_Op.f kj23 (wrap64 ((wrap64 (3 + (wrap64 (Int.tdiv (wrap64 (rd l0 x9_2)) 8)))) - 4)) x10_2 (rd x6_2 (ji57))).bind fun t500 => (codemasonref_Machine.l1 kj23 l0 x6_2 (wrap64 (x9_2 + t490)) t500 (wrap64 (x11_2 + 1)))) else (none)) else (none)) = some (r1, r2) := by first | (rw [hji57] at H; exact H) | (simp only [hji57] at H ⊢; exact H)
                                                by_cases c58 : 0 ≤ (ji57)
                                                · rw [if_pos c58] at H
                                                  have c58b0 : decide (0 ≤ (ji57)) = true := decide_eq_true c58
                                                  clear c58
                                                  by_cases c59 : (ji57) < (x6_2.length : Int)
                                                  · rw [if_pos c59] at H
                                                    have c59b0 : decide ((ji57) < (x6_2.length : Int)) = true := decide_eq_true c59
                                                    clear c59
                                                    replace H := Option.bind_eq_some_iff.mp H
                                                    obtain ⟨t500, A600, H⟩ := H
                                                    replace H : (codemasonref_Machine.l1 kj23 l0 x6_2 (wrap64 (x9_2 + t490)) t500 (wrap64 (x11_2 + 1))) = some (r1, r2) := H
                                                    have A60 := Aside0.mk A600
                                                    clear A600
                                                    have H' := Aside0.mk H
                                                    clear H
                                                    obtain ⟨Ao61, co61, eo61⟩ := Kd.R_slice HO_6.out
                                                    subst eo61
                                                    have p499 : 0 ≤ ((ji57) : Int) := of_decide_eq_true (by first | (with_reducible assumption) | assumption)
                                                    have q499 : (ji57) < (x6_2.length : Int) := of_decide_eq_true (by first | (with_reducible assumption) | assumption)
                                                    obtain ⟨ad499, e499, hx499_0⟩ := Kd.at_int (Kd.R_reads' HO_6.out).2.2 (ji57) p499 q499
                                                    cases e499
                                                    replace p499 := eq_true p499
                                                    replace q499 := eq_true q499
                                                    go_wp2_with (first | (go_at_call 105; (with_reducible refine (codemasonref_Op.calls kj23 (wrap64 ((wrap64 (3 + (wrap64 (Int.tdiv (wrap64 (rd l0 x9_2)) 8)))) - 4)) x10_2 (rd x6_2 (ji57)) t500 _ A60.out).mono ?_); rintro e w' ⟨rfl, ⟨nd, rfl⟩⟩; (try first | exact ⟨rfl, _, World.drewN_drewN _ _ _⟩ | exact ⟨rfl, _, Eq.trans (World.drewN_drewN _ _ _) (congrArg (World.drewN _) (Nat.add_assoc _ _ _))⟩)))
                                                    repeat (go_quiet (first | (go_at_call 105; (with_reducible refine (codemasonref_Op.calls kj23 (wrap64 ((wrap64 (3 + (wrap64 (Int.tdiv (wrap64 (rd l0 x9_2)) 8)))) - 4)) x10_2 (rd x6_2 (ji57)) t500 _ A60.out).mono ?_); rintro e w' ⟨rfl, ⟨nd, rfl⟩⟩; (try first | exact ⟨rfl, _, World.drewN_drewN _ _ _⟩ | exact ⟨rfl, _, Eq.trans (World.drewN_drewN _ _ _) (congrArg (World.drewN _) (Nat.add_assoc _ _ _))⟩))); try go_wp2_with (first | (go_at_call 105; (with_reducible refine (codemasonref_Op.calls kj23 (wrap64 ((wrap64 (3 + (wrap64 (Int.tdiv (wrap64 (rd l0 x9_2)) 8)))) - 4)) x10_2 (rd x6_2 (ji57)) t500 _ A60.out).mono ?_); rintro e w' ⟨rfl, ⟨nd, rfl⟩⟩; (try first | exact ⟨rfl, _, World.drewN_drewN _ _ _⟩ | exact ⟨rfl, _, Eq.trans (World.drewN_drewN _ _ _) (congrArg (World.drewN _) (Nat.add_assoc _ _ _))⟩))))
                                                    go_roundg kj23
                                                    case measure => have := HK1.out; have := HK2.out; have := HJ17.out; have := HJ23.out; omega
                                                    case rel => exact ⟨(x6_2), (wrap64 (x9_2 + t490)), (t500), (wrap64 (x11_2 + 1)), (by first | rfl | (simp; done) | (simp [*]; done)), (by first | rfl | (simp; done) | (simp [*]; done)), (by first | rfl | (simp; done) | (simp [*]; done)), H', ⟨by have := HK1.out; have := HK2.out; have := HJ17.out; have := HJ23.out; omega⟩, ⟨by (with_reducible repeat (first | apply Kd.R_alloc | apply Kd.R_drewN | apply Kd.R_drew)); exact HO_6.out⟩, ⟨by repeat (first | (with_reducible first | exact HB.out | apply below_alloc | apply pw_below_drewN | apply below_drew1) | exact HB.out)⟩⟩
                                                  · rw [if_neg c59] at H
                                                    exact absurd H (by simp)
                                                · rw [if_neg c58] at H
                                                  exact absurd H (by simp)
                              · rw [if_neg c23] at H
                                exact absurd H (by simp)
                            · rw [if_neg c22] at H
                              exact absurd H (by simp)
                    · rw [if_neg c16] at H
                      exact absurd H (by simp)
                  · rw [if_neg c15] at H
                    exact absurd H (by simp)
              · rw [if_neg c13] at H
                have c13b0 : decide (x11_2 < 20000) = false := decide_eq_false c13
                clear c13
                simp only [Option.some.injEq, Prod.mk.injEq] at H
                obtain ⟨rfl, rfl⟩ := H
                go_wp2
                repeat (go_quiet (fail); try go_wp2)
                go_ret2
                exact ⟨_, by first | rfl | (simp [errW_none, errW_some] <;> rfl) | (simp [*, errW_none, errW_some] <;> rfl), by first | exact Kd.R_nil _ _ _ _ _ | exact Kd.N_nil _ _ _ _ _ | exact Kd.V_nil _ _ _ _ _ | exact Kd.Q_nil _ _ _ _ _ | exact Kd.S_nil _ _ _ _ _, by repeat (first | (with_reducible first | exact HB.out | apply below_alloc | apply pw_below_drewN | apply below_drew1) | exact HB.out)⟩
  · rw [if_neg c3] at H
    exact absurd H (by simp)
end Go.Proofs.Ytaicamjpcnhjcaa.PA
namespace Go.Proofs.Ytaicamjpcnhjcaa.PA
open Go.RowKit Go.Proofs.YtaicamjpcnhjcaaW.PrintWords Go.Proofs.YtaicamjpcnhjcaaW.PrintLast
set_option linter.unusedVariables false
set_option linter.unusedSimpArgs false
theorem ev_succ {α : Type} {g : Nat → Option α} {r : α} (h : Ev (fun k => g (k + 1)) r) : Ev g r := by
  obtain ⟨K, h⟩ := h
  exact ⟨K + 1, fun k hk => by
    obtain ⟨m, rfl⟩ : ∃ m, k = m + 1 := ⟨k - 1, by omega⟩
    exact h m (by omega)⟩
theorem ev_ite {α : Type} {c : Prop} [Decidable c] {g f : Nat → Option α} {r : α} (h : c → Ev g r) (k : ¬ c → Ev f r) : Ev (fun n => if c then g n else f n) r := by
  by_cases hc : c
  · simp only [if_pos hc]; exact h hc
  · simp only [if_neg hc]; exact k hc
theorem ev_pos {α : Type} {c : Prop} [Decidable c] {g f : Nat → Option α} {r : α} (hc : c) (h : Ev g r) : Ev (fun n => if c then g n else f n) r := by simp only [if_pos hc]; exact h
theorem ev_neg {α : Type} {c : Prop} [Decidable c] {g f : Nat → Option α} {r : α} (hc : ¬ c) (h : Ev f r) : Ev (fun n => if c then g n else f n) r := by simp only [if_neg hc]; exact h
theorem ev_some {α : Type} {a r : α} (h : a = r) : Ev (fun _ => some a) r := by rw [h]; exact Ev.now r
theorem ev_eq {α : Type} {g : Nat → Option α} {a r : α} (h : Ev g a) (e : a = r) : Ev g r := e ▸ h
theorem ev_const {α : Type} {a : Option α} {r : α} (h : a = some r) : Ev (fun _ => a) r := ⟨0, fun _ _ => h⟩
theorem down_ind {n : Nat} {P : Nat → Prop} (h0 : P n) (hs : ∀ i, i < n → P (i + 1) → P i) : ∀ i, i ≤ n → P i := by
  have key : ∀ d i, i + d = n → P i := by
    intro d
    induction d with
    | zero => intro i hi; obtain rfl : i = n := by omega
              exact h0
    | succ d ih => intro i hi; exact hs i (by omega) (ih (i + 1) (by omega))
  intro i hi
  exact key (n - i) i (by omega)
theorem rd_nat (l : List Int) (i : Nat) : rd l (i : Int) = l.getD i 0 := rfl
theorem rdT111_nat (l : List S111) (i : Nat) : rd_T111 l (i : Int) = l.getD i z111 := rfl
theorem rdT79_nat (l : List S79) (i : Nat) : rd_T79 l (i : Int) = l.getD i z79 := rfl
theorem wrap_in {x : Int} (h1 : -9223372036854775808 ≤ x) (h2 : x ≤ 9223372036854775807) : wrap64 x = x := by unfold wrap64; omega
theorem wrap_nat {i n : Nat} (h : i < n) (hn : n ≤ 9223372036854775807) : wrap64 ((i : Int) + 1) = ((i + 1 : Nat) : Int) := by unfold wrap64; omega
end Go.Proofs.Ytaicamjpcnhjcaa.PA
namespace Go.Proofs.Ytaicamjpcnhjcaa.PA
open Go.RowKit Go.Proofs.YtaicamjpcnhjcaaW.PrintWords Go.Proofs.YtaicamjpcnhjcaaW.PrintLast
set_option linter.unusedVariables false
set_option linter.unusedSimpArgs false
theorem inside_ev (n : Int) (l : List Int) (hl : l.length ≤ 9223372036854775807) : Ev (fun k => codemasonref_Inside.f k n l) (l.all fun x => decide (0 ≤ x) && decide (x < n)) := by
  unfold codemasonref_Inside.f
  have key := down_ind (n := l.length) (P := fun i => Ev (fun k => codemasonref_Inside.l0 k n l l.length i) ((l.drop i).all fun x => decide (0 ≤ x) && decide (x < n))) ?_ ?_ 0 (by omega)
  · exact key
  · refine ev_succ ?_
    simp only [codemasonref_Inside.l0, List.drop_length]
    exact ev_neg (by omega) (Ev.now _)
  · intro i hi ih
    refine ev_succ ?_
    simp only [codemasonref_Inside.l0, wrap_nat hi hl, drop_at 0 hi, List.all_cons, ← rd_nat]
    refine ev_pos (by omega) (ev_pos (by omega) (ev_pos (by omega) ?_))
    generalize rd l i = x
    refine ev_ite (fun h => ev_some ?_) (fun h => ev_ite (fun h2 => ev_some ?_) (fun h2 => ev_eq ih ?_))
    · rw [decide_eq_false (by omega)]; rfl
    · rw [decide_eq_false (show ¬ x < n by omega), Bool.and_false]; rfl
    · rw [decide_eq_true (show 0 ≤ x by omega), decide_eq_true (show x < n by omega)]; rfl
theorem inside1_ev (n x : Int) : Ev (fun k => codemasonref_Inside.f k n [x]) (decide (0 ≤ x ∧ x < n)) := ev_eq (inside_ev n [x] (by simp)) (by simp)
theorem inside2_ev (n x y : Int) : Ev (fun k => codemasonref_Inside.f k n [x, y]) (decide ((0 ≤ x ∧ x < n) ∧ 0 ≤ y ∧ y < n)) := ev_eq (inside_ev n [x, y] (by simp)) (by simp)
theorem value_eq (x : Int) : codemasonref_Value.f x = some (decide (0 ≤ x ∧ x ≤ 255)) := by
  unfold codemasonref_Value.f
  split <;> simp <;> omega
end Go.Proofs.Ytaicamjpcnhjcaa.PA
namespace Go.Proofs.Ytaicamjpcnhjcaa.PA
open Go.RowKit Go.Proofs.YtaicamjpcnhjcaaW.PrintWords Go.Proofs.YtaicamjpcnhjcaaW.PrintLast
set_option linter.unusedVariables false
set_option linter.unusedSimpArgs false
theorem insB_eq (v i : Int) : insB v i = decide (0 ≤ i ∧ i < v) := by simp [insB]
theorem stepCheck_ev (v op c a b x : Int) : Ev (fun k => codemasonref_StepCheck.f k v v op c a b x) (stepE v op c a b x) := by
  unfold codemasonref_StepCheck.f
  have h1 : ∀ q : Bool, Ev (fun k => codemasonref_StepCheck.j1 k v q op c a b x) (if q = true then 4 else if insB v c = false ∨ op > 2 ∧ (insB v a = false ∨ insB v b = false) then 2 else 0) := fun q => by
    refine ev_succ ?_
    simp only [codemasonref_StepCheck.j1]
    refine ev_ite (fun h => ev_some (by rw [if_pos h])) (fun h => Ev.bind (inside1_ev _ _) (ev_ite (fun h2 => ev_ite (fun h3 => Ev.bind (inside2_ev _ _ _) (ev_ite (fun h4 => ev_some ?_) (fun h4 => ev_some ?_))) (fun h3 => ev_some ?_)) (fun h2 => ev_some ?_)))
    all_goals (simp only [insB_eq]; grind)
  have h0 : ∀ q : Bool, Ev (fun k => codemasonref_StepCheck.j0 k v v q op c a b x) (if q = true then 6 else if op = 1 ∧ (x < 0 ∨ x > 255) ∨ op = 2 ∧ insB v x = false then 4 else if insB v c = false ∨ op > 2 ∧ (insB v a = false ∨ insB v b = false) then 2 else 0) := fun q => by
    refine ev_succ ?_
    simp only [codemasonref_StepCheck.j0, value_eq, Option.bind_some]
    refine ev_ite (fun h => ev_some (by rw [if_pos h])) (fun h => ev_ite (fun h2 => ev_ite (fun h3 => ev_ite (fun h4 => absurd h4 (by omega)) (fun h4 => ev_eq (h1 _) ?_)) (fun h3 => ev_eq (h1 _) ?_)) (fun h2 => ev_ite (fun h3 => Ev.bind (inside1_ev _ _) (ev_eq (h1 _) ?_)) (fun h3 => ev_eq (h1 _) ?_)))
    all_goals (simp only [insB_eq]; grind)
  refine ev_ite (fun h => ev_eq (h0 _) ?_) (fun h => ev_eq (h0 _) ?_)
  all_goals (simp only [stepE]; grind)
theorem stepsErr_at' (v : Int) {l : List S111} {j : Nat} (h : j < l.length) : stepsErr v (l.drop j) = if stepE v (rd_T111 l j).f0 (rd_T111 l j).f1 (rd_T111 l j).f2 (rd_T111 l j).f3 (rd_T111 l j).f4 ≠ 0 then stepE v (rd_T111 l j).f0 (rd_T111 l j).f1 (rd_T111 l j).f2 (rd_T111 l j).f3 (rd_T111 l j).f4 else stepsErr v (l.drop (j + 1)) := stepsErr_at v h
theorem blocksErr_at' (v n : Int) {l : List S79} {j : Nat} (h : j < l.length) : blocksErr v n (l.drop j) = if blockErr v n (rd_T79 l j) ≠ 0 then blockErr v n (rd_T79 l j) else blocksErr v n (l.drop (j + 1)) := blocksErr_at v n h
theorem manyOf_at {l : List S79} {j : Nat} (h : j < l.length) (m : Int) : manyOf (l.drop j) m = manyOf (l.drop (j + 1)) (wrap64 (m + (rd_T79 l j).f0.length)) := by rw [drop_at z79 h]; rfl
theorem progCheck_ev (v : Int) (l : List S79) (hl : l.length ≤ 9223372036854775807) (hc : ∀ b ∈ l, b.f0.length ≤ 9223372036854775807) : Ev (fun k => codemasonref_ProgCheck.f k v l) (blockCheck v l) := by
  have key := down_ind (n := l.length) (P := fun i => 1 ≤ v → Ev (fun k => codemasonref_ProgCheck.l1 k v l l l.length i) (blocksErr v l.length (l.drop i))) ?_ ?_ 0 (by omega)
  · have h1 : v < 1 ∨ v > 6 ∨ l.length < 1 ∨ l.length > 8 ∨ manyOf l 0 > 20 → Ev (fun k => codemasonref_ProgCheck.j1 k v l true) (blockCheck v l) := fun h => by
      refine ev_succ ?_
      simp only [codemasonref_ProgCheck.j1, if_true]
      exact ev_some (by rw [blockCheck, if_pos h])
    have first := down_ind (n := l.length) (P := fun i => ∀ m, manyOf (l.drop i) m = manyOf l 0 → Ev (fun k => codemasonref_ProgCheck.l0 k v l m l l.length i) (blockCheck v l)) ?_ ?_ 0 (by omega)
    · exact first 0 rfl
    · intro m hm
      rw [List.drop_length, manyOf] at hm
      subst hm
      refine ev_succ ?_
      simp only [codemasonref_ProgCheck.l0]
      refine ev_neg (by omega) (ev_ite (fun h => h1 (by omega)) (fun h => ev_ite (fun h2 => h1 (by omega)) (fun h2 => ev_ite (fun h3 => h1 (by omega)) (fun h3 => ev_ite (fun h4 => h1 (by omega)) (fun h4 => ?_)))))
      refine ev_succ ?_
      simp only [codemasonref_ProgCheck.j1, decide_eq_true_eq]
      exact ev_ite (fun h5 => ev_some (by rw [blockCheck, if_pos (by omega)])) (fun h5 => ev_eq (key (by omega)) (by rw [blockCheck, if_neg (by omega)]; rfl))
    · intro i hi ih m hm
      rw [manyOf_at hi] at hm
      refine ev_succ ?_
      simp only [codemasonref_ProgCheck.l0, wrap_nat hi hl]
      exact ev_pos (by omega) (ev_pos (by omega) (ev_pos (by omega) (ih _ hm)))
  · intro hv
    refine ev_succ ?_
    simp only [codemasonref_ProgCheck.l1, List.drop_length]
    exact ev_neg (by omega) (Ev.now _)
  · intro i hi ih hv
    replace ih := ih hv
    have hcl : (rd_T79 l i).f0.length ≤ 9223372036854775807 := hc _ (by rw [rdT79_nat, List.getD_eq_getElem?_getD, List.getElem?_eq_getElem hi]; exact List.getElem_mem hi)
    refine ev_succ ?_
    simp only [codemasonref_ProgCheck.l1, blocksErr_at' v l.length hi]
    refine ev_pos (by omega) (ev_pos (by omega) (ev_pos (by omega) ?_))
    generalize rd_T79 l i = b at hcl
    have h5 : ∀ q : Bool, Ev (fun k => codemasonref_ProgCheck.j5 k v l l l.length i q b.f0 b.f1 b.f2 b.f3) (if q = true then 3 else if b.f1 ≥ 0 ∧ ¬ ((0 ≤ b.f2 ∧ b.f2 < l.length) ∧ 0 ≤ b.f3 ∧ b.f3 < l.length) then 3 else blocksErr v l.length (l.drop (i + 1))) := fun q => by
      refine ev_succ ?_
      simp only [codemasonref_ProgCheck.j5, wrap_nat hi hl]
      refine ev_ite (fun h => ev_some (by rw [if_pos h])) (fun h => ev_ite (fun h2 => Ev.bind (inside2_ev _ _ _) (ev_ite (fun h3 => ev_eq ih ?_) (fun h3 => ev_some ?_))) (fun h2 => ev_eq ih ?_))
      all_goals grind
    have h4 : ∀ q : Bool, Ev (fun k => codemasonref_ProgCheck.j4 k v l l l.length i q b.f0 b.f1 b.f2 b.f3) (if q = true then 2 else if b.f1 = -1 ∧ b.f2 ≠ -1 ∧ ¬ (0 ≤ b.f2 ∧ b.f2 < l.length) ∨ b.f1 ≥ 0 ∧ ¬ ((0 ≤ b.f2 ∧ b.f2 < l.length) ∧ 0 ≤ b.f3 ∧ b.f3 < l.length) then 3 else blocksErr v l.length (l.drop (i + 1))) := fun q => by
      refine ev_succ ?_
      simp only [codemasonref_ProgCheck.j4]
      refine ev_ite (fun h => ev_some (by rw [if_pos h])) (fun h => ev_ite (fun h2 => ev_ite (fun h3 => ev_eq (h5 _) ?_) (fun h3 => Ev.bind (inside1_ev _ _) (ev_eq (h5 _) ?_))) (fun h2 => ev_eq (h5 _) ?_))
      all_goals grind
    have inner := down_ind (n := b.f0.length) (P := fun j => stepsErr v b.f0 = stepsErr v (b.f0.drop j) → Ev (fun k => codemasonref_ProgCheck.l2 k v l l l.length i b.f0 b.f0.length j b.f0 b.f1 b.f2 b.f3) (if blockErr v l.length b ≠ 0 then blockErr v l.length b else blocksErr v l.length (l.drop (i + 1)))) ?_ ?_ 0 (by omega)
    · exact inner rfl
    · intro hs
      rw [List.drop_length] at hs
      have hs0 : stepsErr v b.f0 = 0 := hs
      refine ev_succ ?_
      simp only [codemasonref_ProgCheck.l2, blockErr, hs0]
      refine ev_neg (by omega) (ev_ite (fun h => ev_eq (h4 _) ?_) (fun h => Ev.bind (inside1_ev _ _) (ev_eq (h4 _) ?_)))
      all_goals (simp only [insB_eq]; grind)
    · intro j hj ih2 hs
      rw [stepsErr_at' v hj] at hs
      refine ev_succ ?_
      simp only [codemasonref_ProgCheck.l2, wrap_nat hj hcl]
      refine ev_pos (by omega) (ev_pos (by omega) (ev_pos (by omega) (Ev.bind (stepCheck_ev _ _ _ _ _ _) (ev_ite (fun h => ih2 ?_) (fun h => ev_some ?_)))))
      · rw [hs, if_neg (by simpa using h)]
      · rw [if_pos h] at hs
        have hb : blockErr v l.length b = stepsErr v b.f0 := by unfold blockErr; rw [if_pos (by rw [hs]; exact h)]
        rw [hb, hs, if_pos h]
def haveErr (v : Int) (l : List Int) : Int := if (l.length : Int) ≠ v then 3 else if (l.all fun x => decide (0 ≤ x ∧ x ≤ 255)) = true then 0 else 4
theorem haveCheck_ev (v : Int) (l : List Int) (hl : l.length ≤ 9223372036854775807) : Ev (fun k => codemasonref_HaveCheck.f k v l) (haveErr v l) := by
  have key := down_ind (n := l.length) (P := fun i => Ev (fun k => codemasonref_HaveCheck.l0 k l l.length i) (if ((l.drop i).all fun x => decide (0 ≤ x ∧ x ≤ 255)) = true then 0 else 4)) ?_ ?_ 0 (by omega)
  · unfold codemasonref_HaveCheck.f haveErr
    exact ev_ite (fun h => ev_eq key (by rw [if_neg (c := ((l.length : Int) ≠ v)) (by omega), List.drop_zero])) (fun h => ev_some (by rw [if_pos h]))
  · refine ev_succ ?_
    simp only [codemasonref_HaveCheck.l0, List.drop_length]
    exact ev_neg (by omega) (Ev.now _)
  · intro i hi ih
    refine ev_succ ?_
    simp only [codemasonref_HaveCheck.l0, wrap_nat hi hl, drop_at 0 hi, List.all_cons, ← rd_nat, value_eq, Option.bind_some]
    generalize rd l i = x
    refine ev_pos (by omega) (ev_pos (by omega) (ev_pos (by omega) (ev_ite (fun h => ev_eq ih ?_) (fun h => ev_some ?_))))
    · rw [h, Bool.true_and]
    · rw [Bool.not_eq_true] at h; rw [h]; rfl
end Go.Proofs.Ytaicamjpcnhjcaa.PA
namespace Go.Proofs.Ytaicamjpcnhjcaa.PA
open Go.RowKit Go.Proofs.YtaicamjpcnhjcaaW.PrintWords Go.Proofs.YtaicamjpcnhjcaaW.PrintLast Go.Proofs.YtaicamjpcnhjcaaW.PrintMore
set_option linter.unusedVariables false
set_option linter.unusedSimpArgs false
def isVal (x : Int) : Prop := 0 ≤ x ∧ x ≤ 255
def opv (op a b : Int) : Int := if op = 3 then (a + b) % 256 else if op = 4 then (a - b) % 256 else if op = 5 then (a * b) % 256 else if a < b then 1 else 0
theorem opv_val (op a b : Int) : isVal (opv op a b) := by
  unfold opv isVal
  split
  · omega
  · split
    · omega
    · split
      · generalize a * b = c; omega
      · split <;> omega
theorem mul_bd {a b : Int} (ha : isVal a) (hb : isVal b) : 0 ≤ a * b ∧ a * b ≤ 65025 := by
  obtain ⟨a0, a1⟩ := ha
  obtain ⟨b0, b1⟩ := hb
  refine ⟨Int.mul_nonneg a0 b0, ?_⟩
  have h1 : a * b ≤ 255 * b := Int.mul_le_mul_of_nonneg_right a1 b0
  omega
theorem refOp_ev {op a b : Int} (ha : isVal a) (hb : isVal b) (h3 : 3 ≤ op) (h6 : op ≤ 6) : Ev (fun k => codemasonref_Op.f k op a b) (opv op a b) := by
  have hm := mul_bd ha hb
  obtain ⟨a0, a1⟩ := ha
  obtain ⟨b0, b1⟩ := hb
  have tm : ∀ x : Int, 0 ≤ x → Int.tmod x 256 = x % 256 := fun x hx => Int.tmod_eq_emod_of_nonneg hx
  unfold codemasonref_Op.f opv
  generalize hc : a * b = c at hm
  refine ev_ite (fun h => ?_) (fun h => ?_)
  all_goals
    refine ev_succ ?_
    simp only [codemasonref_Op.j0]
    refine ev_ite (fun h2 => ?_) (fun h2 => ?_)
    all_goals
      refine ev_succ ?_
      simp only [codemasonref_Op.j1, hc]
      refine ev_ite (fun h4 => ev_ite (fun h5 => ev_ite (fun h7 => ev_some ?_) (fun h7 => ev_some ?_)) (fun h5 => ev_some ?_)) (fun h4 => ev_ite (fun h5 => ev_ite (fun h7 => ev_some ?_) (fun h7 => ev_some ?_)) (fun h5 => ev_some ?_))
      all_goals first
        | (exfalso; omega)
        | (simp only [h, h2, h4, h5, h7, if_true, if_false, eq_self]; rfl)
        | (subst_vars; simp (config := { decide := true }) only [if_true, if_false]; rw [wrap_in (by omega) (by omega), tm _ (by omega)])
        | (subst_vars; simp (config := { decide := true }) only [if_true, if_false]; rw [wrap_in (by rw [wrap_in (by omega) (by omega)]; omega) (by rw [wrap_in (by omega) (by omega)]; omega), wrap_in (by omega) (by omega), tm _ (by omega)]; omega)
        | (subst_vars; simp (config := { decide := true }) only [*, if_true, if_false])
def stepV (s : S111) (v : List Int) : Int := if s.f0 = 1 then s.f4 else if s.f0 = 2 then rd v s.f4 else opv s.f0 (rd v s.f2) (rd v s.f3)
def doStep (v : List Int) (s : S111) : List Int := v.set s.f1.toNat (stepV s v)
def doing (l : List S111) (v : List Int) : List Int := l.foldl doStep v
def vals (n : Int) (v : List Int) : Prop := (v.length : Int) = n ∧ ∀ x ∈ v, isVal x
theorem vals_rd {n : Int} {v : List Int} (h : vals n v) (i : Int) : isVal (rd v i) := by
  unfold rd
  rw [List.getD_eq_getElem?_getD]
  cases e : v[i.toNat]? with
  | none => exact ⟨by decide, by decide⟩
  | some x => exact h.2 x (List.mem_of_getElem? e)
theorem vals_set {n : Int} {v : List Int} (h : vals n v) (i : Nat) {x : Int} (hx : isVal x) : vals n (v.set i x) :=
  ⟨by rw [List.length_set]; exact h.1, fun y hy => by
    rcases List.mem_or_eq_of_mem_set hy with h1 | h1
    · exact h.2 y h1
    · exact h1 ▸ hx⟩
def okStep (n : Int) (s : S111) : Prop := stepE n s.f0 s.f1 s.f2 s.f3 s.f4 = 0
theorem okStep_parts {n : Int} {s : S111} (h : okStep n s) : 1 ≤ s.f0 ∧ s.f0 ≤ 6 ∧ (0 ≤ s.f1 ∧ s.f1 < n) ∧ (s.f0 = 1 → 0 ≤ s.f4 ∧ s.f4 ≤ 255) ∧ (s.f0 = 2 → 0 ≤ s.f4 ∧ s.f4 < n) ∧ (2 < s.f0 → (0 ≤ s.f2 ∧ s.f2 < n) ∧ 0 ≤ s.f3 ∧ s.f3 < n) := by
  unfold okStep stepE insB at h
  simp only [Bool.and_eq_false_iff, decide_eq_false_iff_not] at h
  split at h
  · exact absurd h (by decide)
  · split at h
    · exact absurd h (by decide)
    · split at h
      · exact absurd h (by decide)
      · refine ⟨by omega, by omega, ⟨by omega, by omega⟩, fun _ => ⟨by omega, by omega⟩, fun _ => ⟨by omega, by omega⟩, fun _ => ⟨⟨by omega, by omega⟩, by omega, by omega⟩⟩
theorem stepV_val {n : Int} {s : S111} (h : okStep n s) {v : List Int} (hv : vals n v) : isVal (stepV s v) := by
  obtain ⟨h1, h2, h3, h4, h5, h6⟩ := okStep_parts h
  unfold stepV
  split
  · exact h4 ‹_›
  · split
    · exact vals_rd hv _
    · exact opv_val _ _ _
theorem doStep_vals {n : Int} {s : S111} (h : okStep n s) {v : List Int} (hv : vals n v) : vals n (doStep v s) := vals_set hv _ (stepV_val h hv)
theorem steps_ok {n : Int} : ∀ {l : List S111}, stepsErr n l = 0 → ∀ s ∈ l, okStep n s
  | [], _, s, hs => absurd hs (by simp)
  | x :: t, h, s, hs => by
    rw [stepsErr] at h
    by_cases e : stepE n x.f0 x.f1 x.f2 x.f3 x.f4 ≠ 0
    · rw [if_pos e] at h; exact absurd h e
    · rw [if_neg e] at h
      rcases List.mem_cons.1 hs with rfl | hs
      · exact by simpa [okStep] using e
      · exact steps_ok h s hs
theorem steps_err {n : Int} : ∀ {l : List S111}, (∀ s ∈ l, okStep n s) → stepsErr n l = 0
  | [], _ => rfl
  | x :: t, h => by
    rw [stepsErr, if_neg (by simpa [okStep] using h x (by simp))]
    exact steps_err (fun s hs => h s (List.mem_cons_of_mem _ hs))
theorem doing_cons (s : S111) (l : List S111) (v : List Int) : doing (s :: l) v = doing l (doStep v s) := rfl
theorem doing_vals {n : Int} : ∀ {l : List S111} {v : List Int}, (∀ s ∈ l, okStep n s) → vals n v → vals n (doing l v)
  | [], v, _, hv => hv
  | s :: l, v, h, hv => doing_vals (l := l) (fun x hx => h x (List.mem_cons_of_mem _ hx)) (doStep_vals (h s (by simp)) hv)
theorem doing_at {l : List S111} {i : Nat} (h : i < l.length) (v : List Int) : doing (l.drop i) v = doing (l.drop (i + 1)) (doStep v (rd_T111 l i)) := by rw [drop_at z111 h]; rfl
theorem mem_at {α : Type} {d : α} {l : List α} {i : Nat} (h : i < l.length) : l.getD i d ∈ l := by
  rw [List.getD_eq_getElem?_getD, List.getElem?_eq_getElem h]; exact List.getElem_mem h
theorem refDoing_ev {n : Int} {l : List S111} (hl : l.length ≤ 9223372036854775807) (h : ∀ s ∈ l, okStep n s) {v : List Int} (hv : vals n v) (hn : n < 17592186044416) : Ev (fun k => codemasonref_Doing.f k l v) (doing l v) := by
  have key := down_ind (n := l.length) (P := fun i => ∀ v, vals n v → Ev (fun k => codemasonref_Doing.l0 k v l l.length i) (doing (l.drop i) v)) ?_ ?_ 0 (by omega)
  · unfold codemasonref_Doing.f
    simp only [Option.bind_some, List.length_nil, List.nil_append]
    exact ev_pos (by have := hv.1; omega) (key v hv)
  · intro v hv
    refine ev_succ ?_
    simp only [codemasonref_Doing.l0, List.drop_length]
    exact ev_neg (by omega) (Ev.now _)
  · intro i hi ih v hv
    have hs := h _ (mem_at (d := z111) hi)
    rw [doing_at hi]
    refine ev_succ ?_
    simp only [codemasonref_Doing.l0, wrap_nat hi hl]
    rw [← rdT111_nat] at hs
    generalize rd_T111 l i = s at hs
    obtain ⟨h1, h2, h3, h4, h5, h6⟩ := okStep_parts hs
    replace ih := ih _ (doStep_vals hs hv)
    have hlen := hv.1
    have t1 := vals_rd hv s.f2
    have t2 := vals_rd hv s.f3
    refine ev_pos (by omega) (ev_pos (by omega) (ev_pos (by omega) (ev_ite (fun c => ev_pos (by omega) (ev_pos (by omega) (ev_neg (by omega) (ev_pos (by omega) (ev_pos (by omega) ?_))))) (fun c => ev_ite (fun c2 => ev_pos (by omega) (ev_pos (by omega) (ev_pos (by omega) (ev_pos (by omega) (Ev.bind (refOp_ev t1 t2 (by omega) (by omega)) (ev_pos (by omega) (ev_pos (by omega) ?_))))))) (fun c2 => ev_pos (by omega) (ev_pos (by omega) ?_))))))
    · simpa only [doStep, stepV, if_neg (show ¬ s.f0 = 1 by omega), if_pos c] using ih
    · simpa only [doStep, stepV, if_neg (show ¬ s.f0 = 1 by omega), if_neg c] using ih
    · simpa only [doStep, stepV, if_pos (show s.f0 = 1 by omega)] using ih
end Go.Proofs.Ytaicamjpcnhjcaa.PA
namespace Go.Proofs.Ytaicamjpcnhjcaa.PA
open Go.RowKit Go.Proofs.YtaicamjpcnhjcaaW.PrintWords Go.Proofs.YtaicamjpcnhjcaaW.PrintLast Go.Proofs.YtaicamjpcnhjcaaW.PrintMore
set_option linter.unusedVariables false
set_option linter.unusedSimpArgs false
theorem ints_ev (a b : List Int) (ha : a.length ≤ 9223372036854775807) : Ev (fun k => codemasonref_Ints.f k a b) (decide (a = b)) := by
  unfold codemasonref_Ints.f
  refine ev_ite (fun hl => ?_) (fun hl => ev_some (by rw [decide_eq_false (fun e => hl (by rw [e]))]))
  have hl' : a.length = b.length := by omega
  have key := down_ind (n := a.length) (P := fun i => Ev (fun k => codemasonref_Ints.l0 k a b i) (decide (a.drop i = b.drop i))) ?_ ?_ 0 (by omega)
  · exact key
  · refine ev_succ ?_
    simp only [codemasonref_Ints.l0]
    refine ev_neg (by omega) (ev_some ?_)
    rw [List.drop_length, hl', List.drop_length]; rfl
  · intro i hi ih
    refine ev_succ ?_
    simp only [codemasonref_Ints.l0, wrap_nat hi ha, drop_at 0 hi, drop_at 0 (show i < b.length by omega), ← rd_nat, List.cons.injEq]
    refine ev_pos (by omega) (ev_pos (by omega) (ev_pos (by omega) (ev_ite (fun h => ev_eq ih ?_) (fun h => ev_some ?_))))
    · simp [h]
    · simp [h]
theorem ints_self (a : List Int) (ha : a.length ≤ 9223372036854775807) : Ev (fun k => codemasonref_Ints.f k a a) true := ev_eq (ints_ev a a ha) (by simp)
theorem haveErr_zero {v : Int} {l : List Int} (h : haveErr v l = 0) : vals v l := by
  unfold haveErr at h
  by_cases h1 : (l.length : Int) ≠ v
  · rw [if_pos h1] at h; exact absurd h (by decide)
  · rw [if_neg h1] at h
    by_cases h2 : (l.all fun x => decide (0 ≤ x ∧ x ≤ 255)) = true
    · exact ⟨by omega, fun x hx => by have := List.all_eq_true.1 h2 x hx; simpa [isVal] using this⟩
    · rw [if_neg h2] at h; exact absurd h (by decide)
end Go.Proofs.Ytaicamjpcnhjcaa.PA
namespace Go.Proofs.Ytaicamjpcnhjcaa.PA
open Go.RowKit Go.Proofs.YtaicamjpcnhjcaaW.PrintWords Go.Proofs.YtaicamjpcnhjcaaW.PrintLast Go.Proofs.YtaicamjpcnhjcaaW.PrintMore
set_option linter.unusedVariables false
set_option linter.unusedSimpArgs false
theorem tdiv8 {k x : Int} (hk : 0 ≤ k) (hx : 0 ≤ x ∧ x < 8) : Int.tdiv (8 * k + x) 8 = k := by
  rw [Int.tdiv_eq_ediv_of_nonneg (by omega)]; omega
theorem tmod8 {k x : Int} (hk : 0 ≤ k) (hx : 0 ≤ x ∧ x < 8) : Int.tmod (8 * k + x) 8 = x := by
  rw [Int.tmod_eq_emod_of_nonneg (by omega)]; omega
theorem wrap8 {k x : Int} (hk : 0 ≤ k ∧ k ≤ 31) (hx : 0 ≤ x ∧ x < 8) : wrap64 (8 * k + x) = 8 * k + x := wrap_in (by omega) (by omega)
def osize (k : Int) : Int := if k = 1 then 2 else if k = 8 ∨ k = 9 then 3 else 1
theorem orderSize_eq {k x : Int} (hk : 0 ≤ k ∧ k ≤ 9) (hx : 0 ≤ x ∧ x < 8) (hc : (2 ≤ k ∧ k ≤ 7 ∨ k = 9) → x < 6) : codemasonref_OrderSize.f (8 * k + x) = some (osize k) := by
  unfold codemasonref_OrderSize.f
  rw [wrap8 ⟨hk.1, by omega⟩ hx, tdiv8 hk.1 hx, tmod8 hk.1 hx, wrap_in (x := k) (by omega) (by omega)]
  have hl : (([1, 2, 1, 1, 1, 1, 1, 1, 3, 3] : List Int).length : Int) = 10 := rfl
  simp only [Option.bind_some, hl]
  have hr : rd [1, 2, 1, 1, 1, 1, 1, 1, 3, 3] k = osize k := by
    have : k = 0 ∨ k = 1 ∨ k = 2 ∨ k = 3 ∨ k = 4 ∨ k = 5 ∨ k = 6 ∨ k = 7 ∨ k = 8 ∨ k = 9 := by omega
    rcases this with rfl | rfl | rfl | rfl | rfl | rfl | rfl | rfl | rfl | rfl <;> rfl
  rw [hr]
  rw [if_neg (by omega)]
  by_cases h2 : k ≥ 2
  · rw [if_pos h2]
    by_cases h7 : k ≤ 7
    · rw [if_pos h7, if_neg (by omega), if_pos (by omega), if_pos (by omega)]
    · rw [if_neg h7]
      by_cases h9 : k = 9
      · rw [if_pos h9, if_neg (by omega), if_pos (by omega), if_pos (by omega)]
      · rw [if_neg h9, if_pos (by omega), if_pos (by omega)]
  · rw [if_neg h2, if_neg (by omega), if_pos (by omega), if_pos (by omega)]
inductive MStep (pc : List Int) : List Int → Int → Int → List Int → Int → Int → Prop
  | num {c : List Int} {a b : Int} : 0 ≤ a → a + 1 < pc.length → rd pc a = 8 → MStep pc c a b c (a + 2) (rd pc (a + 1))
  | get {c : List Int} {a b x : Int} : 0 ≤ a → a < pc.length → 0 ≤ x ∧ x < 6 → rd pc a = 16 + x → MStep pc c a b c (a + 1) (rd c x)
  | put {c : List Int} {a b x : Int} : 0 ≤ a → a < pc.length → 0 ≤ x ∧ x < 6 → rd pc a = 24 + x → MStep pc c a b (c.set x.toNat b) (a + 1) b
  | op {c : List Int} {a b x o : Int} : 0 ≤ a → a < pc.length → 0 ≤ x ∧ x < 6 → 3 ≤ o ∧ o ≤ 6 → rd pc a = 8 * (o + 1) + x → isVal b → isVal (rd c x) → MStep pc c a b c (a + 1) (opv o b (rd c x))
  | go {c : List Int} {a b : Int} : 0 ≤ a → a + 2 < pc.length → rd pc a = 64 → MStep pc c a b c (rd pc (a + 1) + 256 * rd pc (a + 2)) b
  | zero {c : List Int} {a b x : Int} : 0 ≤ a → a + 2 < pc.length → 0 ≤ x ∧ x < 6 → rd pc a = 72 + x → rd c x = 0 → MStep pc c a b c (rd pc (a + 1) + 256 * rd pc (a + 2)) b
  | more {c : List Int} {a b x : Int} : 0 ≤ a → a + 2 < pc.length → 0 ≤ x ∧ x < 6 → rd pc a = 72 + x → rd c x ≠ 0 → MStep pc c a b c (a + 3) b
section
variable {pc c : List Int} {a b k : Int} {r : List Int × Int}
theorem order_ev {q x : Int} (hl : pc.length ≤ 1000000) (h0 : 0 ≤ a) (hq : 0 ≤ q ∧ q ≤ 9) (hx : 0 ≤ x ∧ x < 8) (hc : (2 ≤ q ∧ q ≤ 7 ∨ q = 9) → x < 6) (hb : rd pc a = 8 * q + x) (hin : a + osize q ≤ pc.length) (hk : 0 ≤ k ∧ k < 20000)
    (h : Ev (fun n => codemasonref_Machine.j3 n pc c a b k (osize q) q x (if osize q = 3 then wrap64 (wrap64 (rd pc (a + 1)) + wrap64 (256 * wrap64 (rd pc (a + 2)))) else 0)) r) : Ev (fun n => codemasonref_Machine.l1 n pc c a b k) r := by
  have ho : 1 ≤ osize q ∧ osize q ≤ 3 := by unfold osize; split <;> (try split) <;> omega
  refine ev_succ ?_
  simp only [codemasonref_Machine.l1]
  refine ev_pos hk.2 (ev_neg (by omega) (ev_pos h0 (ev_pos (by omega) ?_)))
  simp only [hb, orderSize_eq hq hx hc, Option.bind_some]
  refine ev_neg (by omega) ?_
  refine ev_succ ?_
  simp only [codemasonref_Machine.j2, wrap_in (x := a + osize q) (by omega) (by omega), hb, wrap8 ⟨hq.1, by omega⟩ hx, tdiv8 hq.1 hx, tmod8 hq.1 hx, wrap_in (x := q) (by omega) (by omega)]
  refine ev_neg (by simp; omega) (ev_pos h0 (ev_pos (by omega) (ev_ite (fun h3 => ?_) (fun h3 => ?_))))
  · rw [wrap_in (x := a + 1) (by omega) (by omega), wrap_in (x := a + 2) (by omega) (by omega)]
    simp only [if_pos h3] at h
    exact ev_pos (by omega) (ev_pos (by omega) (ev_pos (by omega) (ev_pos (by omega) h)))
  · simp only [if_neg h3] at h
    exact h
theorem stop_ev (hl : pc.length ≤ 1000000) (h0 : 0 ≤ a) (hin : a < pc.length) (hb : rd pc a = 0) (hk : 0 ≤ k ∧ k < 20000) : Ev (fun n => codemasonref_Machine.l1 n pc c a b k) (c, 0) := by
  refine order_ev (q := 0) (x := 0) hl h0 (by decide) (by decide) (by omega) (by rw [hb]; rfl) (by have : osize 0 = 1 := rfl; omega) hk ?_
  refine ev_succ ?_
  simp only [codemasonref_Machine.j3]
  exact ev_pos trivial (Ev.now _)
theorem mstep_ev {c1 : List Int} {a1 b1 : Int} (hl : pc.length ≤ 1000000) (hbytes : ∀ i, 0 ≤ rd pc i ∧ rd pc i ≤ 255) (hc6 : c.length = 6) (hk : 0 ≤ k ∧ k < 20000) (hs : MStep pc c a b c1 a1 b1) (h : Ev (fun n => codemasonref_Machine.l1 n pc c1 a1 b1 (k + 1)) r) : Ev (fun n => codemasonref_Machine.l1 n pc c a b k) r := by
  have w0 : wrap64 (k + 1) = k + 1 := wrap_in (by omega) (by omega)
  have wa : wrap64 (wrap64 (rd pc (a + 1)) + wrap64 (256 * wrap64 (rd pc (a + 2)))) = rd pc (a + 1) + 256 * rd pc (a + 2) := by
    have h1 := hbytes (a + 1)
    have h2 := hbytes (a + 2)
    rw [wrap_in (x := rd pc (a + 1)) (by omega) (by omega), wrap_in (x := rd pc (a + 2)) (by omega) (by omega), wrap_in (x := 256 * rd pc (a + 2)) (by omega) (by omega), wrap_in (by omega) (by omega)]
  have o1 : osize 1 = 2 := rfl
  have o2 : osize 2 = 1 := rfl
  have o3 : osize 3 = 1 := rfl
  have o8 : osize 8 = 3 := rfl
  have o9 : osize 9 = 3 := rfl
  cases hs with
  | num h0 h1 hb =>
    refine order_ev (q := 1) (x := 0) hl h0 (by decide) (by decide) (by omega) (by rw [hb]; rfl) (by omega) hk ?_
    have h2 := hbytes (a + 1)
    refine ev_succ ?_
    simp only [codemasonref_Machine.j3, o1, w0, wrap_in (x := a + 1) (by omega) (by omega), wrap_in (x := a + 2) (by omega) (by omega), wrap_in (x := rd pc (a + 1)) (by omega) (by omega)]
    exact ev_neg (by decide) (ev_pos trivial (ev_pos (by omega) (ev_pos (by omega) h)))
  | @get x h0 h1 hx hb =>
    refine order_ev (q := 2) (x := x) hl h0 (by decide) (by omega) (by omega) (by rw [hb]; omega) (by omega) hk ?_
    refine ev_succ ?_
    simp only [codemasonref_Machine.j3, o2, w0, wrap_in (x := a + 1) (by omega) (by omega)]
    exact ev_neg (by decide) (ev_neg (by decide) (ev_pos trivial (ev_pos hx.1 (ev_pos (by omega) h))))
  | @put x h0 h1 hx hb =>
    refine order_ev (q := 3) (x := x) hl h0 (by decide) (by omega) (by omega) (by rw [hb]; omega) (by omega) hk ?_
    refine ev_succ ?_
    simp only [codemasonref_Machine.j3, o3, w0, wrap_in (x := a + 1) (by omega) (by omega)]
    exact ev_neg (by decide) (ev_neg (by decide) (ev_neg (by decide) (ev_pos trivial (ev_pos hx.1 (ev_pos (by omega) h)))))
  | @op x o h0 h1 hx ho hb hvb hvx =>
    have oo : osize (o + 1) = 1 := by unfold osize; rw [if_neg (by omega), if_neg (by omega)]
    refine order_ev (q := o + 1) (x := x) hl h0 (by omega) (by omega) (by omega) hb (by omega) hk ?_
    refine ev_succ ?_
    simp only [codemasonref_Machine.j3, oo, w0, wrap_in (x := a + 1) (by omega) (by omega), wrap_in (x := 3 + (o + 1)) (by omega) (by omega), wrap_in (x := 3 + (o + 1) - 4) (by omega) (by omega)]
    have e : 3 + (o + 1) - 4 = o := by omega
    rw [e]
    exact ev_neg (by omega) (ev_neg (by omega) (ev_neg (by omega) (ev_neg (by omega) (ev_neg (by omega) (ev_neg (by omega) (ev_pos hx.1 (ev_pos (by omega) (Ev.bind (refOp_ev hvb hvx ho.1 ho.2) h))))))))
  | go h0 h1 hb =>
    refine order_ev (q := 8) (x := 0) hl h0 (by decide) (by decide) (by omega) (by rw [hb]; rfl) (by omega) hk ?_
    refine ev_succ ?_
    simp only [codemasonref_Machine.j3, o8, w0, eq_self, if_true, wa]
    exact ev_neg (by decide) (ev_neg (by decide) (ev_neg (by decide) (ev_neg (by decide) h)))
  | @zero x h0 h1 hx hb hz =>
    refine order_ev (q := 9) (x := x) hl h0 (by decide) (by omega) (by omega) (by rw [hb]; omega) (by omega) hk ?_
    refine ev_succ ?_
    simp only [codemasonref_Machine.j3, o9, w0, eq_self, if_true, wa]
    exact ev_neg (by decide) (ev_neg (by decide) (ev_neg (by decide) (ev_neg (by decide) (ev_neg (by decide) (ev_pos hx.1 (ev_pos (by omega) (ev_pos hz h)))))))
  | @more x h0 h1 hx hb hz =>
    refine order_ev (q := 9) (x := x) hl h0 (by decide) (by omega) (by omega) (by rw [hb]; omega) (by omega) hk ?_
    refine ev_succ ?_
    simp only [codemasonref_Machine.j3, o9, w0, wrap_in (x := a + 3) (by omega) (by omega)]
    exact ev_neg (by decide) (ev_neg (by decide) (ev_neg (by decide) (ev_neg (by decide) (ev_neg (by decide) (ev_pos trivial (ev_pos hx.1 (ev_pos (by omega) (ev_neg hz h))))))))
end
inductive MR (pc : List Int) : Nat → List Int → Int → Int → List Int → Int → Int → Prop
  | refl (c : List Int) (a b : Int) : MR pc 0 c a b c a b
  | step {n : Nat} {c c1 c2 : List Int} {a b a1 b1 a2 b2 : Int} : MStep pc c a b c1 a1 b1 → MR pc n c1 a1 b1 c2 a2 b2 → MR pc (n + 1) c a b c2 a2 b2
theorem MR.one {pc c c1 : List Int} {a b a1 b1 : Int} (h : MStep pc c a b c1 a1 b1) : MR pc 1 c a b c1 a1 b1 := .step h (.refl _ _ _)
theorem MR.trans {pc : List Int} {n m : Nat} {c c1 c2 : List Int} {a b a1 b1 a2 b2 : Int} (h : MR pc n c a b c1 a1 b1) (k : MR pc m c1 a1 b1 c2 a2 b2) : MR pc (n + m) c a b c2 a2 b2 := by
  induction h with
  | refl => simpa using k
  | step hs _ ih => have := MR.step hs (ih k); rw [show ∀ x y : Nat, x + 1 + y = x + y + 1 from fun x y => by omega]; exact this
theorem MStep.len {pc c c1 : List Int} {a b a1 b1 : Int} (h : MStep pc c a b c1 a1 b1) : c1.length = c.length := by
  cases h <;> simp
theorem mr_ev {pc : List Int} {n : Nat} {c c1 : List Int} {a b a1 b1 : Int} {r : List Int × Int} (hl : pc.length ≤ 1000000) (hbytes : ∀ i, 0 ≤ rd pc i ∧ rd pc i ≤ 255) (h : MR pc n c a b c1 a1 b1) : ∀ (k : Int), c.length = 6 → 0 ≤ k → k + n ≤ 20000 → Ev (fun m => codemasonref_Machine.l1 m pc c1 a1 b1 (k + n)) r → Ev (fun m => codemasonref_Machine.l1 m pc c a b k) r := by
  induction h with
  | refl => intro k _ _ _ h; simpa using h
  | @step n c c1 c2 a b a1 b1 a2 b2 hs _ ih =>
    intro k hc hk hn h
    refine mstep_ev hl hbytes hc ⟨hk, by omega⟩ hs (ih (k + 1) (by rw [hs.len]; exact hc) (by omega) (by omega) ?_)
    have e : k + 1 + (n : Int) = k + ((n + 1 : Nat) : Int) := by omega
    rw [e]; exact h
theorem machine_ev {pc v : List Int} {r : List Int × Int} (hv : v.length ≤ 6) (h : Ev (fun n => codemasonref_Machine.l1 n pc (v ++ List.replicate (6 - v.length) 0) 0 0 0) r) : Ev (fun n => codemasonref_Machine.f n pc v) r := by
  unfold codemasonref_Machine.f
  have key := down_ind (n := v.length) (P := fun i => Ev (fun n => codemasonref_Machine.l0 n pc (v.take i ++ List.replicate (6 - i) 0) v v.length i) r) ?_ ?_ 0 (by omega)
  · exact ev_pos (by decide) (by simpa using key)
  · refine ev_succ ?_
    simp only [codemasonref_Machine.l0, List.take_length]
    exact ev_neg (by omega) h
  · intro i hi ih
    refine ev_succ ?_
    have e : (v.take i ++ List.replicate (6 - i) 0).set i (rd v i) = v.take (i + 1) ++ List.replicate (6 - (i + 1)) 0 := by
      rw [List.set_append_right _ _ (by rw [List.length_take]; omega), List.length_take, show i - min i v.length = 0 by omega, take_at 0 hi, show 6 - i = (6 - (i + 1)) + 1 by omega, List.replicate_succ, List.set_cons_zero, List.append_assoc]
      rfl
    simp only [codemasonref_Machine.l0, wrap_nat hi (by omega), Int.toNat_natCast, e]
    exact ev_pos (by omega) (ev_pos (by omega) (ev_pos (by omega) (ev_pos (by simp; omega) ih)))
end Go.Proofs.Ytaicamjpcnhjcaa.PA
