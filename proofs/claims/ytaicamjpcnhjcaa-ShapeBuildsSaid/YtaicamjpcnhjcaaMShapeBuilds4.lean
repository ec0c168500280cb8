/- Texts of one proof, merged: PA34, PA35, PA5, Pu5, Pu7. -/
import Derived.Test.YtaicamjpcnhjcaaMShapeBuilds3
namespace Go.Proofs.Ytaicamjpcnhjcaa.PA
open Go.RowKit Go.Proofs.YtaicamjpcnhjcaaW.PrintWords Go.Proofs.YtaicamjpcnhjcaaW.PrintLast Go.Proofs.YtaicamjpcnhjcaaW.PrintMore
set_option linter.unusedVariables false
set_option linter.unusedSimpArgs false
def codemasonref_Goes.l0 : Nat → List (S79) → List Int → Int → List Int → Int → Option (List Int × List Int × Bool)
  | 0, _, _, _, _, _ => none
  | k + 1, x0, x1, x2, x9, x10 => if x10 = (-1) then (some (x1, x9, true)) else (if (x9.length : Int) ≥ x2 then (some (([] : List Int), ([] : List Int), false)) else (if x9.length < 17592186044416 then ((some (x9 ++ [x10] : List Int)).bind fun y308 => (if 0 ≤ x10 then (if x10 < (x0.length : Int) then ((codemasonref_Doing.f k ((rd_T79 x0 x10).f0) x1).bind fun t312 => (if ((rd_T79 x0 x10).f1) ≥ 0 then (if 0 ≤ ((rd_T79 x0 x10).f1) then (if ((rd_T79 x0 x10).f1) < (t312.length : Int) then (if (rd t312 ((rd_T79 x0 x10).f1)) = 0 then (codemasonref_Goes.l0 k x0 t312 x2 y308 ((rd_T79 x0 x10).f3)) else (codemasonref_Goes.l0 k x0 t312 x2 y308 ((rd_T79 x0 x10).f2))) else (none)) else (none)) else (codemasonref_Goes.l0 k x0 t312 x2 y308 ((rd_T79 x0 x10).f2)))) else (none)) else (none))) else (none)))
def codemasonref_Goes.f (k : Nat) (l0 : List (S79)) (l1 : List Int) (a2 : Int) : Option (List Int × List Int × Bool) := codemasonref_Goes.l0 k l0 l1 a2 ([] : List Int) 0
theorem codemasonref_Goes.mono_l : ∀ k, (∀ y0 y1 y2 y3 y4, LeO (codemasonref_Goes.l0 k y0 y1 y2 y3 y4) (codemasonref_Goes.l0 (k + 1) y0 y1 y2 y3 y4))
  | 0 => fun _ _ _ _ _ r h => by simp [codemasonref_Goes.l0] at h
  | k + 1 => by
    have ih0 := codemasonref_Goes.mono_l k
    · intro y0 y1 y2 y3 y4
      unfold codemasonref_Goes.l0
      repeat' first
      | (with_reducible exact ih0 _ _ _ _ _)
      | (with_reducible exact codemasonref_Doing.mono _ _ _)
      | (with_reducible exact LeO.refl _)
      | (with_reducible exact LeO.none _)
      | (with_reducible refine LeO.ite ?_ ?_)
      | (with_reducible refine LeO.bind ?_ (fun _ => ?_))
      | exact ih0 _ _ _ _ _
      | exact codemasonref_Doing.mono _ _ _
      | exact LeO.none _
      | refine LeO.ite ?_ ?_
      | refine LeO.bind ?_ (fun _ => ?_)
theorem codemasonref_Goes.mono : ∀ a0 a1 a2 k, LeO (codemasonref_Goes.f k a0 a1 a2) (codemasonref_Goes.f (k + 1) a0 a1 a2) := by
  intro a0 a1 a2 k
  have ih0 := codemasonref_Goes.mono_l k
  unfold codemasonref_Goes.f
  repeat' first
      | (with_reducible exact ih0 _ _ _ _ _)
      | (with_reducible exact codemasonref_Doing.mono _ _ _)
      | (with_reducible exact LeO.refl _)
      | (with_reducible exact LeO.none _)
      | (with_reducible refine LeO.ite ?_ ?_)
      | (with_reducible refine LeO.bind ?_ (fun _ => ?_))
      | exact ih0 _ _ _ _ _
      | exact codemasonref_Doing.mono _ _ _
      | exact LeO.none _
      | refine LeO.ite ?_ ?_
      | refine LeO.bind ?_ (fun _ => ?_)
set_option maxHeartbeats 8000000 in
set_option maxRecDepth 100000 in
theorem codemasonref_Goes.calls (k : Nat) (A0 : Option Addr) (c0 : Nat) (l0 : List (S79)) (P1_ : Nat → Prop) (A1 : Option Addr) (c1 : Nat) (l1 : List Int) (a2 : Int) (r1 : List Int) (r2 : List Int) (r3 : Bool) (w : World) (hr0 : Kd.C k79 w A0 l0.length l0) (hc0 : l0.length ≤ c0) (hs1 : Kd.V (Kd.int .i64) 3 w w.heap.size (fun k_ => P1_ k_) (.slice A1 l1.length c1) l1) (h : codemasonref_Goes.f k l0 l1 a2 = some (r1, r2, r3)) :
    Calls Try.prog 34 #[.slice A0 l0.length c0, .slice A1 l1.length c1, .int .i64 a2] w fun e w' => ∃ v0_ v1_ : Value, e = .returned (.tuple #[v0_, v1_, .bool r3]) ∧ Kd.V (Kd.int .i64) 3 w' w.heap.size (fun k_ => (P1_ k_ ∨ w.heap.size ≤ k_) ∧ some k_ ≠ (v1_ : Value).ownBlock) v0_ r1 ∧ Kd.R (Kd.int .i64) 3 w' w.heap.size (fun k_ => (w.heap.size ≤ k_)) v1_ r2 ∧ Below w.heap.size w w' := by
  have HR0 := Aside0.mk hr0
  have HC0 := Aside0.mk hc0
  clear hr0 hc0
  have HO1 := Aside0.mk (show Kd.V (Kd.int .i64) 3 w w.heap.size (fun k_ => (P1_ k_ ∨ w.heap.size ≤ k_)) (.slice A1 l1.length c1) l1 from Kd.V_mono hs1 (fun k_ hk => .inl hk))
  have HB := Aside0.mk (Below.refl w.heap.size w)
  have H : (codemasonref_Goes.l0 k l0 l1 a2 ([] : List Int) 0) = some (r1, r2, r3) := h
  clear h
  have H' := Aside0.mk H
  clear H
  go_enter Try.func34, Try.ntmps34
  go_wp2
  go_loopg [1, 9, 10] k (fun kq v1 v9 v10 w' => ∃ (x1_1 : List Int) (x9_1 : List Int) (x10_1 : Int), v10 = .int .i64 x10_1 ∧ Aside0 (codemasonref_Goes.l0 kq l0 x1_1 a2 x9_1 x10_1 = some (r1, r2, r3)) ∧ Aside0 (kq ≤ k) ∧ Aside0 (Kd.V (Kd.int .i64) 3 w' w.heap.size (fun k_ => (P1_ k_ ∨ w.heap.size ≤ k_) ∧ some k_ ≠ (v9 : Value).ownBlock) v1 x1_1) ∧ Aside0 (Kd.R (Kd.int .i64) 3 w' w.heap.size (fun k_ => (w.heap.size ≤ k_)) v9 x9_1) ∧ Aside0 (Below w.heap.size w w'))
  case atStart => exact ⟨(l1), (([] : List Int)), (0), (by first | rfl | (simp; done) | (simp [*]; done)), H', ⟨Nat.le_refl _⟩, ⟨by (with_reducible repeat (first | apply Kd.V_alloc | apply Kd.V_drewN | apply Kd.V_drew)); exact Kd.V_mono HO1.out (fun _ hk => ⟨hk, (by simp [Value.ownBlock])⟩)⟩, ⟨by first | exact Kd.R_nil _ _ _ _ _ | exact Kd.N_nil _ _ _ _ _ | exact Kd.V_nil _ _ _ _ _ | exact Kd.Q_nil _ _ _ _ _ | exact Kd.S_nil _ _ _ _ _⟩, ⟨by repeat (first | (with_reducible first | exact HB.out | apply below_alloc | apply pw_below_drewN | apply below_drew1) | exact HB.out)⟩⟩
  case round =>
    clear H'
    try clear c1
    try clear p2
    try clear c3
    obtain ⟨x1_1, x9_1, x10_1, rfl, HA, HK1, HO_1, HO_9, HB⟩ := hrel
    cases gk with
    | zero => exact absurd HA.out (by simp [codemasonref_Goes.l0])
    | succ k1 =>
      have H := HA.out
      clear HA
      simp only [codemasonref_Goes.l0] at H
      by_cases c4 : x10_1 = (-1)
      · rw [if_pos c4] at H
        have c4b0 : (x10_1 == (-1)) = true := beq_iff_eq.mpr c4
        have c4b1 : (x10_1 != (-1)) = false := bne_eq_false_iff_eq.mpr c4
        clear c4
        simp only [Option.some.injEq, Prod.mk.injEq] at H
        obtain ⟨rfl, rfl, rfl⟩ := H
        go_wp2
        go_ret3
        exact ⟨_, _, by first | rfl | (simp [errW_none, errW_some] <;> rfl) | (simp [*, errW_none, errW_some] <;> rfl), by (with_reducible repeat (first | apply Kd.V_alloc | apply Kd.V_drewN | apply Kd.V_drew)); exact HO_1.out, by (with_reducible repeat (first | apply Kd.R_alloc | apply Kd.R_drewN | apply Kd.R_drew)); exact HO_9.out, by repeat (first | (with_reducible first | exact HB.out | apply below_alloc | apply pw_below_drewN | apply below_drew1) | exact HB.out)⟩
      · rw [if_neg c4] at H
        have c4b0 : (x10_1 == (-1)) = false := beq_eq_false_iff_ne.mpr c4
        have c4b1 : (x10_1 != (-1)) = true := bne_iff_ne.mpr c4
        by_cases c5 : (x9_1.length : Int) ≥ a2
        · rw [if_pos c5] at H
          have c5b0 : decide (a2 ≤ (x9_1.length : Int)) = true := decide_eq_true c5
          clear c5
          simp only [Option.some.injEq, Prod.mk.injEq] at H
          obtain ⟨rfl, rfl, rfl⟩ := H
          obtain ⟨Ao6, co6, eo6⟩ := Kd.R_slice HO_9.out
          subst eo6
          go_wp2
          go_ret3
          exact ⟨_, _, by first | rfl | (simp [errW_none, errW_some] <;> rfl) | (simp [*, errW_none, errW_some] <;> rfl), Kd.V_nil _ _ _ _ _, by first | exact Kd.R_nil _ _ _ _ _ | exact Kd.N_nil _ _ _ _ _ | exact Kd.V_nil _ _ _ _ _ | exact Kd.Q_nil _ _ _ _ _ | exact Kd.S_nil _ _ _ _ _, by repeat (first | (with_reducible first | exact HB.out | apply below_alloc | apply pw_below_drewN | apply below_drew1) | exact HB.out)⟩
        · rw [if_neg c5] at H
          have c5b0 : decide (a2 ≤ (x9_1.length : Int)) = false := decide_eq_false c5
          clear c5
          by_cases c7 : x9_1.length < 17592186044416
          · rw [if_pos c7] at H
            have LMc7 := Aside0.mk c7
            clear c7
            obtain ⟨y308, hy308⟩ : ∃ y_ : List Int, y_ = (x9_1 ++ [x10_1]) := ⟨_, rfl⟩
            replace H : (if 0 ≤ x10_1 then (if x10_1 < (l0.length : Int) then ((codemasonref_Doing.f k1 ((rd_T79 l0 x10_1).f0) x1_1).bind fun t312 => (if ((rd_T79 l0 x10_1).f1) ≥ 0 then (if 0 ≤ ((rd_T79 l0 x10_1).f1) then (if ((rd_T79 l0 x10_1).f1) < (t312.length : Int) then (if (rd t312 ((rd_T79 l0 x10_1).f1)) = 0 then (codemasonref_Goes.l0 k1 l0 t312 a2 y308 ((rd_T79 l0 x10_1).f3)) else (codemasonref_Goes.l0 k1 l0 t312 a2 y308 ((rd_T79 l0 x10_1).f2))) else (none)) else (none)) else (codemasonref_Goes.l0 k1 l0 t312 a2 y308 ((rd_T79 l0 x10_1).f2)))) else (none)) else (none)) = some (r1, r2, r3) := by first | (rw [hy308]; with_reducible exact H) | (have H2_ := (Option.bind_some _ _).symm.trans H; rw [hy308]; with_reducible exact H2_) | (have H2_ := (Option.bind_some _ _).symm.trans H; with_reducible exact H2_) | with_reducible exact H | (rw [hy308]; exact H) | exact H
            have Ny308 := Aside0.mk hy308
            clear hy308
            by_cases c8 : 0 ≤ x10_1
            · rw [if_pos c8] at H
              have c8b0 : decide (0 ≤ x10_1) = true := decide_eq_true c8
              clear c8
              by_cases c9 : x10_1 < (l0.length : Int)
              · rw [if_pos c9] at H
                have c9b0 : decide (x10_1 < (l0.length : Int)) = true := decide_eq_true c9
                clear c9
                replace H := Option.bind_eq_some_iff.mp H
                obtain ⟨t312, A100, H⟩ := H
                replace H : (if ((rd_T79 l0 x10_1).f1) ≥ 0 then (if 0 ≤ ((rd_T79 l0 x10_1).f1) then (if ((rd_T79 l0 x10_1).f1) < (t312.length : Int) then (if (rd t312 ((rd_T79 l0 x10_1).f1)) = 0 then (codemasonref_Goes.l0 k1 l0 t312 a2 y308 ((rd_T79 l0 x10_1).f3)) else (codemasonref_Goes.l0 k1 l0 t312 a2 y308 ((rd_T79 l0 x10_1).f2))) else (none)) else (none)) else (codemasonref_Goes.l0 k1 l0 t312 a2 y308 ((rd_T79 l0 x10_1).f2))) = some (r1, r2, r3) := H
                have A10 := Aside0.mk A100
                clear A100
                by_cases c11 : ((rd_T79 l0 x10_1).f1) ≥ 0
                · rw [if_pos c11] at H
                  have c11b0 : decide (0 ≤ ((rd_T79 l0 x10_1).f1)) = true := decide_eq_true c11
                  clear c11
                  by_cases c12 : 0 ≤ ((rd_T79 l0 x10_1).f1)
                  · rw [if_pos c12] at H
                    have c12b0 : decide (0 ≤ ((rd_T79 l0 x10_1).f1)) = true := decide_eq_true c12
                    clear c12
                    by_cases c13 : ((rd_T79 l0 x10_1).f1) < (t312.length : Int)
                    · rw [if_pos c13] at H
                      have c13b0 : decide (((rd_T79 l0 x10_1).f1) < (t312.length : Int)) = true := decide_eq_true c13
                      clear c13
                      by_cases c14 : (rd t312 ((rd_T79 l0 x10_1).f1)) = 0
                      · rw [if_pos c14] at H
                        have c14b0 : ((rd t312 ((rd_T79 l0 x10_1).f1)) == 0) = true := beq_iff_eq.mpr c14
                        have c14b1 : ((rd t312 ((rd_T79 l0 x10_1).f1)) != 0) = false := bne_eq_false_iff_eq.mpr c14
                        clear c14
                        have H' := Aside0.mk H
                        clear H
                        obtain ⟨Ao15, co15, eo15⟩ := Kd.R_slice HO_9.out
                        subst eo15
                        go_wp2_with (first | ((with_reducible refine gate_builtin (b := .append) (xs := #[.tmp 17, .tmp 19]) rfl ?_); at_builtin; refine Kd.R_append (Kd.int .i64) (w0 := w) w.heap.size rfl (.tmp 17) (.tmp 19) 23 3 (.int .i64 0) 8 rfl Try.underlying23 info3 rfl (by decide) (by omega) (.slice Ao15 x9_1.length co15) x9_1 x10_1 [.int .i64 x10_1] (fun k_ => (w.heap.size ≤ k_)) (fun _ => False) rfl rfl ?aP (fun _ hk => hk.elim) ?aF ?aO ?aB ?aS ?aL ?_; (case aP => exact rfl); (case aB => exact (by repeat (first | (with_reducible first | exact HB.out | apply below_alloc | apply pw_below_drewN | apply below_drew1) | exact HB.out))); (case aF => exact (fun k_ hk => (Nat.le_trans (below_size (by repeat (first | (with_reducible first | exact HB.out | apply below_alloc | apply pw_below_drewN | apply below_drew1) | exact HB.out))) hk))); (case aO => exact (by (with_reducible repeat (first | apply Kd.R_alloc | apply Kd.R_drewN | apply Kd.R_drew)); exact HO_9.out)); (case aS => exact (below_size (by repeat (first | (with_reducible first | exact HB.out | apply below_alloc | apply pw_below_drewN | apply below_drew1) | exact HB.out)))); (case aL => have := LMc7.out; omega); intro v309 w16 ho hb hg hat; rw [← Ny308.out] at ho; have n0_ := Aside0.mk (Kd.V_afterv (ok := (fun k_ => (P1_ k_ ∨ w.heap.size ≤ k_))) (by (with_reducible repeat (first | apply Kd.V_alloc | apply Kd.V_drewN | apply Kd.V_drew)); exact HO_1.out) hg hat); have n1_ := Aside0.mk (hb); have n2_ := Aside0.mk (ho); clear HO_1; clear HB; clear HO_9; have HO_1 := n0_; have HB := n1_; have HO310 := n2_; clear n0_ n1_ n2_; clear ho hb hg hat; have p311 : 0 ≤ (x10_1 : Int) := of_decide_eq_true (by first | (with_reducible assumption) | assumption); have q311 : x10_1 < (l0.length : Int) := of_decide_eq_true (by first | (with_reducible assumption) | assumption); obtain ⟨ad311, A311_0, c311_0, e311, hx311_0, hx311_1, hx311_2, hx311_3, hl311_0, hi311_0⟩ := at_T79 HR0.out x10_1 p311 q311; cases e311; replace hx311_0 := (HB.out.cell (World.block_lt_of_cell? w _ hx311_0)).trans hx311_0; replace hx311_1 := (HB.out.cell (World.block_lt_of_cell? w _ hx311_1)).trans hx311_1; replace hx311_2 := (HB.out.cell (World.block_lt_of_cell? w _ hx311_2)).trans hx311_2; replace hx311_3 := (HB.out.cell (World.block_lt_of_cell? w _ hx311_3)).trans hx311_3; have HR311_0 := Aside0.mk hi311_0; have HC311_0 := Aside0.mk hl311_0; clear hi311_0 hl311_0; replace p311 := eq_true p311; replace q311 := eq_true q311; obtain ⟨Ao17, co17, eo17⟩ := Kd.V_slice HO_1.out; subst eo17) | ((with_reducible refine gate_callee (f := 83) rfl ?_); refine goesL_ (some 27) rfl rfl Try.func83 (by kernel_rfl) rfl #[.slice A311_0 ((rd_T79 l0 x10_1).f0).length c311_0, .slice Ao17 x1_1.length co17] rfl (by (try simp only [List.map_toArray, List.map_cons, List.map_nil]); first | done | rfl | (simp only [List.length_drop, List.length_take]; rfl)) ?_; (with_reducible refine (codemasonref_Doing.calls k1 _ _ ((rd_T79 l0 x10_1).f0) _ _ x1_1 t312 _ ?side1 ?side2 ?side3 ?side4 A10.out).mono ?_); (case side1 => repeat (first | exact (Kd.C_below HR311_0.out HB.out) | (with_reducible refine Kd.C_alloc ?_ _) | (with_reducible refine Kd.C_drewN ?_ _) | (with_reducible refine Kd.C_drew ?_))); (case side2 => exact HC311_0.out); (case side3 => repeat (first | exact (Kd.V_reads' HO_1.out).2.2 | (with_reducible refine Kd.C_alloc ?_ _) | (with_reducible refine Kd.C_drewN ?_ _) | (with_reducible refine Kd.C_drew ?_))); (case side4 => exact (Kd.V_reads' HO_1.out).2.1); rintro e w18 ⟨v313, rfl, ho0, hb⟩; refine ⟨_, rfl, ?_⟩; have n0_ := Aside0.mk (Kd.V_elder' (by (with_reducible repeat (first | apply Kd.V_alloc | apply Kd.V_drewN | apply Kd.V_drew)); exact HO_1.out) (Kd.R_base ho0) hb); have n1_ := Aside0.mk (Kd.R_elder' (by (with_reducible repeat (first | apply Kd.R_alloc | apply Kd.R_drewN | apply Kd.R_drew)); exact HO310.out) (Kd.R_base ho0) hb); have n2_ := Aside0.mk (Kd.R_lower (Kd.R_new' (Kd.R_newM (M := fun k_ => (w.heap.size ≤ k_)) ho0 (below_size (by repeat (first | (with_reducible first | exact HB.out | apply below_alloc | apply pw_below_drewN | apply below_drew1) | exact HB.out))) (fun k_ h_ => h_)) (Kd.R_lt (by (with_reducible repeat (first | apply Kd.R_alloc | apply Kd.R_drewN | apply Kd.R_drew)); exact HO310.out))) (below_size (by repeat (first | (with_reducible first | exact HB.out | apply below_alloc | apply pw_below_drewN | apply below_drew1) | exact HB.out)))); have n3_ := Aside0.mk (below_step (by repeat (first | (with_reducible first | exact HB.out | apply below_alloc | apply pw_below_drewN | apply below_drew1) | exact HB.out)) hb); clear HO_1; clear HO310; clear HB; have HO_1 := n0_; have HO310 := n1_; have HO314 := n2_; have HB := n3_; clear n0_ n1_ n2_ n3_; (try clear hb); (try clear hb2); (try clear hk); (try clear hi); (try clear ho0); have p315 : 0 ≤ (x10_1 : Int) := of_decide_eq_true (by first | (with_reducible assumption) | assumption); have q315 : x10_1 < (l0.length : Int) := of_decide_eq_true (by first | (with_reducible assumption) | assumption); obtain ⟨ad315, A315_0, c315_0, e315, hx315_0, hx315_1, hx315_2, hx315_3, hl315_0, hi315_0⟩ := at_T79 HR0.out x10_1 p315 q315; obtain rfl : ad311 = ad315 := (by injection e315); replace hx315_0 := (HB.out.cell (World.block_lt_of_cell? w _ hx315_0)).trans hx315_0; replace hx315_1 := (HB.out.cell (World.block_lt_of_cell? w _ hx315_1)).trans hx315_1; replace hx315_2 := (HB.out.cell (World.block_lt_of_cell? w _ hx315_2)).trans hx315_2; replace hx315_3 := (HB.out.cell (World.block_lt_of_cell? w _ hx315_3)).trans hx315_3; have HR315_0 := Aside0.mk hi315_0; have HC315_0 := Aside0.mk hl315_0; clear hi315_0 hl315_0; replace p315 := eq_true p315; replace q315 := eq_true q315; have p316 : 0 ≤ (x10_1 : Int) := of_decide_eq_true (by first | (with_reducible assumption) | assumption); have q316 : x10_1 < (l0.length : Int) := of_decide_eq_true (by first | (with_reducible assumption) | assumption); obtain ⟨ad316, A316_0, c316_0, e316, hx316_0, hx316_1, hx316_2, hx316_3, hl316_0, hi316_0⟩ := at_T79 HR0.out x10_1 p316 q316; obtain rfl : ad311 = ad316 := (by injection e316); replace hx316_0 := (HB.out.cell (World.block_lt_of_cell? w _ hx316_0)).trans hx316_0; replace hx316_1 := (HB.out.cell (World.block_lt_of_cell? w _ hx316_1)).trans hx316_1; replace hx316_2 := (HB.out.cell (World.block_lt_of_cell? w _ hx316_2)).trans hx316_2; replace hx316_3 := (HB.out.cell (World.block_lt_of_cell? w _ hx316_3)).trans hx316_3; have HR316_0 := Aside0.mk hi316_0; have HC316_0 := Aside0.mk hl316_0; clear hi316_0 hl316_0; replace p316 := eq_true p316; replace q316 := eq_true q316; have ea_ := Option.some.inj (hx315_0.symm.trans hx316_0); injection ea_ with ea_ en_ ec_; subst ea_; subst ec_; clear en_; obtain ⟨Ao19, co19, eo19⟩ := Kd.R_slice HO314.out; subst eo19; have p317 : 0 ≤ (((rd_T79 l0 x10_1).f1) : Int) := of_decide_eq_true (by first | (with_reducible assumption) | assumption); have q317 : ((rd_T79 l0 x10_1).f1) < (t312.length : Int) := of_decide_eq_true (by first | (with_reducible assumption) | assumption); obtain ⟨ad317, e317, hx317_0⟩ := Kd.at_int (Kd.R_reads' HO314.out).2.2 ((rd_T79 l0 x10_1).f1) p317 q317; cases e317; replace p317 := eq_true p317; replace q317 := eq_true q317; have p318 : 0 ≤ (x10_1 : Int) := of_decide_eq_true (by first | (with_reducible assumption) | assumption); have q318 : x10_1 < (l0.length : Int) := of_decide_eq_true (by first | (with_reducible assumption) | assumption); obtain ⟨ad318, A318_0, c318_0, e318, hx318_0, hx318_1, hx318_2, hx318_3, hl318_0, hi318_0⟩ := at_T79 HR0.out x10_1 p318 q318; obtain rfl : ad311 = ad318 := (by injection e318); replace hx318_0 := (HB.out.cell (World.block_lt_of_cell? w _ hx318_0)).trans hx318_0; replace hx318_1 := (HB.out.cell (World.block_lt_of_cell? w _ hx318_1)).trans hx318_1; replace hx318_2 := (HB.out.cell (World.block_lt_of_cell? w _ hx318_2)).trans hx318_2; replace hx318_3 := (HB.out.cell (World.block_lt_of_cell? w _ hx318_3)).trans hx318_3; have HR318_0 := Aside0.mk hi318_0; have HC318_0 := Aside0.mk hl318_0; clear hi318_0 hl318_0; replace p318 := eq_true p318; replace q318 := eq_true q318; have ea_ := Option.some.inj (hx315_0.symm.trans hx318_0); injection ea_ with ea_ en_ ec_; subst ea_; subst ec_; clear en_))
                        go_roundg k1
                        case measure => have := HK1.out; omega
                        case rel => exact ⟨(t312), (y308), ((rd_T79 l0 x10_1).f3), (by first | rfl | (simp; done) | (simp [*]; done)), H', ⟨by have := HK1.out; omega⟩, ⟨Kd.V_mono (Kd.R_V HO314.out) (fun k_ hk => ⟨.inr hk.1.1, hk.2⟩)⟩, ⟨by (with_reducible repeat (first | apply Kd.R_alloc | apply Kd.R_drewN | apply Kd.R_drew)); exact Kd.R_mono HO310.out (fun _ hk => hk.1)⟩, ⟨by repeat (first | (with_reducible first | exact HB.out | apply below_alloc | apply pw_below_drewN | apply below_drew1) | exact HB.out)⟩⟩
                      · rw [if_neg c14] at H
                        have c14b0 : ((rd t312 ((rd_T79 l0 x10_1).f1)) == 0) = false := beq_eq_false_iff_ne.mpr c14
                        have c14b1 : ((rd t312 ((rd_T79 l0 x10_1).f1)) != 0) = true := bne_iff_ne.mpr c14
                        have H' := Aside0.mk H
                        clear H
                        obtain ⟨Ao20, co20, eo20⟩ := Kd.R_slice HO_9.out
                        subst eo20
                        go_wp2_with (first | ((with_reducible refine gate_builtin (b := .append) (xs := #[.tmp 17, .tmp 19]) rfl ?_); at_builtin; refine Kd.R_append (Kd.int .i64) (w0 := w) w.heap.size rfl (.tmp 17) (.tmp 19) 23 3 (.int .i64 0) 8 rfl Try.underlying23 info3 rfl (by decide) (by omega) (.slice Ao20 x9_1.length co20) x9_1 x10_1 [.int .i64 x10_1] (fun k_ => (w.heap.size ≤ k_)) (fun _ => False) rfl rfl ?aP (fun _ hk => hk.elim) ?aF ?aO ?aB ?aS ?aL ?_; (case aP => exact rfl); (case aB => exact (by repeat (first | (with_reducible first | exact HB.out | apply below_alloc | apply pw_below_drewN | apply below_drew1) | exact HB.out))); (case aF => exact (fun k_ hk => (Nat.le_trans (below_size (by repeat (first | (with_reducible first | exact HB.out | apply below_alloc | apply pw_below_drewN | apply below_drew1) | exact HB.out))) hk))); (case aO => exact (by (with_reducible repeat (first | apply Kd.R_alloc | apply Kd.R_drewN | apply Kd.R_drew)); exact HO_9.out)); (case aS => exact (below_size (by repeat (first | (with_reducible first | exact HB.out | apply below_alloc | apply pw_below_drewN | apply below_drew1) | exact HB.out)))); (case aL => have := LMc7.out; omega); intro v309 w21 ho hb hg hat; rw [← Ny308.out] at ho; have n0_ := Aside0.mk (Kd.V_afterv (ok := (fun k_ => (P1_ k_ ∨ w.heap.size ≤ k_))) (by (with_reducible repeat (first | apply Kd.V_alloc | apply Kd.V_drewN | apply Kd.V_drew)); exact HO_1.out) hg hat); have n1_ := Aside0.mk (hb); have n2_ := Aside0.mk (ho); clear HO_1; clear HB; clear HO_9; have HO_1 := n0_; have HB := n1_; have HO310 := n2_; clear n0_ n1_ n2_; clear ho hb hg hat; have p311 : 0 ≤ (x10_1 : Int) := of_decide_eq_true (by first | (with_reducible assumption) | assumption); have q311 : x10_1 < (l0.length : Int) := of_decide_eq_true (by first | (with_reducible assumption) | assumption); obtain ⟨ad311, A311_0, c311_0, e311, hx311_0, hx311_1, hx311_2, hx311_3, hl311_0, hi311_0⟩ := at_T79 HR0.out x10_1 p311 q311; cases e311; replace hx311_0 := (HB.out.cell (World.block_lt_of_cell? w _ hx311_0)).trans hx311_0; replace hx311_1 := (HB.out.cell (World.block_lt_of_cell? w _ hx311_1)).trans hx311_1; replace hx311_2 := (HB.out.cell (World.block_lt_of_cell? w _ hx311_2)).trans hx311_2; replace hx311_3 := (HB.out.cell (World.block_lt_of_cell? w _ hx311_3)).trans hx311_3; have HR311_0 := Aside0.mk hi311_0; have HC311_0 := Aside0.mk hl311_0; clear hi311_0 hl311_0; replace p311 := eq_true p311; replace q311 := eq_true q311; obtain ⟨Ao22, co22, eo22⟩ := Kd.V_slice HO_1.out; subst eo22) | ((with_reducible refine gate_callee (f := 83) rfl ?_); refine goesL_ (some 27) rfl rfl Try.func83 (by kernel_rfl) rfl #[.slice A311_0 ((rd_T79 l0 x10_1).f0).length c311_0, .slice Ao22 x1_1.length co22] rfl (by (try simp only [List.map_toArray, List.map_cons, List.map_nil]); first | done | rfl | (simp only [List.length_drop, List.length_take]; rfl)) ?_; (with_reducible refine (codemasonref_Doing.calls k1 _ _ ((rd_T79 l0 x10_1).f0) _ _ x1_1 t312 _ ?side1 ?side2 ?side3 ?side4 A10.out).mono ?_); (case side1 => repeat (first | exact (Kd.C_below HR311_0.out HB.out) | (with_reducible refine Kd.C_alloc ?_ _) | (with_reducible refine Kd.C_drewN ?_ _) | (with_reducible refine Kd.C_drew ?_))); (case side2 => exact HC311_0.out); (case side3 => repeat (first | exact (Kd.V_reads' HO_1.out).2.2 | (with_reducible refine Kd.C_alloc ?_ _) | (with_reducible refine Kd.C_drewN ?_ _) | (with_reducible refine Kd.C_drew ?_))); (case side4 => exact (Kd.V_reads' HO_1.out).2.1); rintro e w23 ⟨v313, rfl, ho0, hb⟩; refine ⟨_, rfl, ?_⟩; have n0_ := Aside0.mk (Kd.V_elder' (by (with_reducible repeat (first | apply Kd.V_alloc | apply Kd.V_drewN | apply Kd.V_drew)); exact HO_1.out) (Kd.R_base ho0) hb); have n1_ := Aside0.mk (Kd.R_elder' (by (with_reducible repeat (first | apply Kd.R_alloc | apply Kd.R_drewN | apply Kd.R_drew)); exact HO310.out) (Kd.R_base ho0) hb); have n2_ := Aside0.mk (Kd.R_lower (Kd.R_new' (Kd.R_newM (M := fun k_ => (w.heap.size ≤ k_)) ho0 (below_size (by repeat (first | (with_reducible first | exact HB.out | apply below_alloc | apply pw_below_drewN | apply below_drew1) | exact HB.out))) (fun k_ h_ => h_)) (Kd.R_lt (by (with_reducible repeat (first | apply Kd.R_alloc | apply Kd.R_drewN | apply Kd.R_drew)); exact HO310.out))) (below_size (by repeat (first | (with_reducible first | exact HB.out | apply below_alloc | apply pw_below_drewN | apply below_drew1) | exact HB.out)))); have n3_ := Aside0.mk (below_step (by repeat (first | (with_reducible first | exact HB.out | apply below_alloc | apply pw_below_drewN | apply below_drew1) | exact HB.out)) hb); clear HO_1; clear HO310; clear HB; have HO_1 := n0_; have HO310 := n1_; have HO314 := n2_; have HB := n3_; clear n0_ n1_ n2_ n3_; (try clear hb); (try clear hb2); (try clear hk); (try clear hi); (try clear ho0); have p315 : 0 ≤ (x10_1 : Int) := of_decide_eq_true (by first | (with_reducible assumption) | assumption); have q315 : x10_1 < (l0.length : Int) := of_decide_eq_true (by first | (with_reducible assumption) | assumption); obtain ⟨ad315, A315_0, c315_0, e315, hx315_0, hx315_1, hx315_2, hx315_3, hl315_0, hi315_0⟩ := at_T79 HR0.out x10_1 p315 q315; obtain rfl : ad311 = ad315 := (by injection e315); replace hx315_0 := (HB.out.cell (World.block_lt_of_cell? w _ hx315_0)).trans hx315_0; replace hx315_1 := (HB.out.cell (World.block_lt_of_cell? w _ hx315_1)).trans hx315_1; replace hx315_2 := (HB.out.cell (World.block_lt_of_cell? w _ hx315_2)).trans hx315_2; replace hx315_3 := (HB.out.cell (World.block_lt_of_cell? w _ hx315_3)).trans hx315_3; have HR315_0 := Aside0.mk hi315_0; have HC315_0 := Aside0.mk hl315_0; clear hi315_0 hl315_0; replace p315 := eq_true p315; replace q315 := eq_true q315; have p316 : 0 ≤ (x10_1 : Int) := of_decide_eq_true (by first | (with_reducible assumption) | assumption); have q316 : x10_1 < (l0.length : Int) := of_decide_eq_true (by first | (with_reducible assumption) | assumption); obtain ⟨ad316, A316_0, c316_0, e316, hx316_0, hx316_1, hx316_2, hx316_3, hl316_0, hi316_0⟩ := at_T79 HR0.out x10_1 p316 q316; obtain rfl : ad311 = ad316 := (by injection e316); replace hx316_0 := (HB.out.cell (World.block_lt_of_cell? w _ hx316_0)).trans hx316_0; replace hx316_1 := (HB.out.cell (World.block_lt_of_cell? w _ hx316_1)).trans hx316_1; replace hx316_2 := (HB.out.cell (World.block_lt_of_cell? w _ hx316_2)).trans hx316_2; replace hx316_3 := (HB.out.cell (World.block_lt_of_cell? w _ hx316_3)).trans hx316_3; have HR316_0 := Aside0.mk hi316_0; have HC316_0 := Aside0.mk hl316_0; clear hi316_0 hl316_0; replace p316 := eq_true p316; replace q316 := eq_true q316; have ea_ := Option.some.inj (hx315_0.symm.trans hx316_0); injection ea_ with ea_ en_ ec_; subst ea_; subst ec_; clear en_; obtain ⟨Ao24, co24, eo24⟩ := Kd.R_slice HO314.out; subst eo24; have p317 : 0 ≤ (((rd_T79 l0 x10_1).f1) : Int) := of_decide_eq_true (by first | (with_reducible assumption) | assumption); have q317 : ((rd_T79 l0 x10_1).f1) < (t312.length : Int) := of_decide_eq_true (by first | (with_reducible assumption) | assumption); obtain ⟨ad317, e317, hx317_0⟩ := Kd.at_int (Kd.R_reads' HO314.out).2.2 ((rd_T79 l0 x10_1).f1) p317 q317; cases e317; replace p317 := eq_true p317; replace q317 := eq_true q317; have p319 : 0 ≤ (x10_1 : Int) := of_decide_eq_true (by first | (with_reducible assumption) | assumption); have q319 : x10_1 < (l0.length : Int) := of_decide_eq_true (by first | (with_reducible assumption) | assumption); obtain ⟨ad319, A319_0, c319_0, e319, hx319_0, hx319_1, hx319_2, hx319_3, hl319_0, hi319_0⟩ := at_T79 HR0.out x10_1 p319 q319; obtain rfl : ad311 = ad319 := (by injection e319); replace hx319_0 := (HB.out.cell (World.block_lt_of_cell? w _ hx319_0)).trans hx319_0; replace hx319_1 := (HB.out.cell (World.block_lt_of_cell? w _ hx319_1)).trans hx319_1; replace hx319_2 := (HB.out.cell (World.block_lt_of_cell? w _ hx319_2)).trans hx319_2; replace hx319_3 := (HB.out.cell (World.block_lt_of_cell? w _ hx319_3)).trans hx319_3; have HR319_0 := Aside0.mk hi319_0; have HC319_0 := Aside0.mk hl319_0; clear hi319_0 hl319_0; replace p319 := eq_true p319; replace q319 := eq_true q319; have ea_ := Option.some.inj (hx315_0.symm.trans hx319_0); injection ea_ with ea_ en_ ec_; subst ea_; subst ec_; clear en_))
                        go_roundg k1
                        case measure => have := HK1.out; omega
                        case rel => exact ⟨(t312), (y308), ((rd_T79 l0 x10_1).f2), (by first | rfl | (simp; done) | (simp [*]; done)), H', ⟨by have := HK1.out; omega⟩, ⟨Kd.V_mono (Kd.R_V HO314.out) (fun k_ hk => ⟨.inr hk.1.1, hk.2⟩)⟩, ⟨by (with_reducible repeat (first | apply Kd.R_alloc | apply Kd.R_drewN | apply Kd.R_drew)); exact Kd.R_mono HO310.out (fun _ hk => hk.1)⟩, ⟨by repeat (first | (with_reducible first | exact HB.out | apply below_alloc | apply pw_below_drewN | apply below_drew1) | exact HB.out)⟩⟩
                    · rw [if_neg c13] at H
                      exact absurd H (by simp)
                  · rw [if_neg c12] at H
                    exact absurd H (by simp)
                · rw [if_neg c11] at H
                  have c11b0 : decide (0 ≤ ((rd_T79 l0 x10_1).f1)) = false := decide_eq_false c11
                  clear c11
                  have H' := Aside0.mk H
                  clear H
                  obtain ⟨Ao25, co25, eo25⟩ := Kd.R_slice HO_9.out
                  subst eo25
                  go_wp2_with (first | ((with_reducible refine gate_builtin (b := .append) (xs := #[.tmp 17, .tmp 19]) rfl ?_); at_builtin; refine Kd.R_append (Kd.int .i64) (w0 := w) w.heap.size rfl (.tmp 17) (.tmp 19) 23 3 (.int .i64 0) 8 rfl Try.underlying23 info3 rfl (by decide) (by omega) (.slice Ao25 x9_1.length co25) x9_1 x10_1 [.int .i64 x10_1] (fun k_ => (w.heap.size ≤ k_)) (fun _ => False) rfl rfl ?aP (fun _ hk => hk.elim) ?aF ?aO ?aB ?aS ?aL ?_; (case aP => exact rfl); (case aB => exact (by repeat (first | (with_reducible first | exact HB.out | apply below_alloc | apply pw_below_drewN | apply below_drew1) | exact HB.out))); (case aF => exact (fun k_ hk => (Nat.le_trans (below_size (by repeat (first | (with_reducible first | exact HB.out | apply below_alloc | apply pw_below_drewN | apply below_drew1) | exact HB.out))) hk))); (case aO => exact (by (with_reducible repeat (first | apply Kd.R_alloc | apply Kd.R_drewN | apply Kd.R_drew)); exact HO_9.out)); (case aS => exact (below_size (by repeat (first | (with_reducible first | exact HB.out | apply below_alloc | apply pw_below_drewN | apply below_drew1) | exact HB.out)))); (case aL => have := LMc7.out; omega); intro v309 w26 ho hb hg hat; rw [← Ny308.out] at ho; have n0_ := Aside0.mk (Kd.V_afterv (ok := (fun k_ => (P1_ k_ ∨ w.heap.size ≤ k_))) (by (with_reducible repeat (first | apply Kd.V_alloc | apply Kd.V_drewN | apply Kd.V_drew)); exact HO_1.out) hg hat); have n1_ := Aside0.mk (hb); have n2_ := Aside0.mk (ho); clear HO_1; clear HB; clear HO_9; have HO_1 := n0_; have HB := n1_; have HO310 := n2_; clear n0_ n1_ n2_; clear ho hb hg hat; have p311 : 0 ≤ (x10_1 : Int) := of_decide_eq_true (by first | (with_reducible assumption) | assumption); have q311 : x10_1 < (l0.length : Int) := of_decide_eq_true (by first | (with_reducible assumption) | assumption); obtain ⟨ad311, A311_0, c311_0, e311, hx311_0, hx311_1, hx311_2, hx311_3, hl311_0, hi311_0⟩ := at_T79 HR0.out x10_1 p311 q311; cases e311; replace hx311_0 := (HB.out.cell (World.block_lt_of_cell? w _ hx311_0)).trans hx311_0; replace hx311_1 := (HB.out.cell (World.block_lt_of_cell? w _ hx311_1)).trans hx311_1; replace hx311_2 := (HB.out.cell (World.block_lt_of_cell? w _ hx311_2)).trans hx311_2; replace hx311_3 := (HB.out.cell (World.block_lt_of_cell? w _ hx311_3)).trans hx311_3; have HR311_0 := Aside0.mk hi311_0; have HC311_0 := Aside0.mk hl311_0; clear hi311_0 hl311_0; replace p311 := eq_true p311; replace q311 := eq_true q311; obtain ⟨Ao27, co27, eo27⟩ := Kd.V_slice HO_1.out; subst eo27) | ((with_reducible refine gate_callee (f := 83) rfl ?_); refine goesL_ (some 27) rfl rfl Try.func83 (by kernel_rfl) rfl #[.slice A311_0 ((rd_T79 l0 x10_1).f0).length c311_0, .slice Ao27 x1_1.length co27] rfl (by (try simp only [List.map_toArray, List.map_cons, List.map_nil]); first | done | rfl | (simp only [List.length_drop, List.length_take]; rfl)) ?_; (with_reducible refine (codemasonref_Doing.calls k1 _ _ ((rd_T79 l0 x10_1).f0) _ _ x1_1 t312 _ ?side1 ?side2 ?side3 ?side4 A10.out).mono ?_); (case side1 => repeat (first | exact (Kd.C_below HR311_0.out HB.out) | (with_reducible refine Kd.C_alloc ?_ _) | (with_reducible refine Kd.C_drewN ?_ _) | (with_reducible refine Kd.C_drew ?_))); (case side2 => exact HC311_0.out); (case side3 => repeat (first | exact (Kd.V_reads' HO_1.out).2.2 | (with_reducible refine Kd.C_alloc ?_ _) | (with_reducible refine Kd.C_drewN ?_ _) | (with_reducible refine Kd.C_drew ?_))); (case side4 => exact (Kd.V_reads' HO_1.out).2.1); rintro e w28 ⟨v313, rfl, ho0, hb⟩; refine ⟨_, rfl, ?_⟩; have n0_ := Aside0.mk (Kd.V_elder' (by (with_reducible repeat (first | apply Kd.V_alloc | apply Kd.V_drewN | apply Kd.V_drew)); exact HO_1.out) (Kd.R_base ho0) hb); have n1_ := Aside0.mk (Kd.R_elder' (by (with_reducible repeat (first | apply Kd.R_alloc | apply Kd.R_drewN | apply Kd.R_drew)); exact HO310.out) (Kd.R_base ho0) hb); have n2_ := Aside0.mk (Kd.R_lower (Kd.R_new' (Kd.R_newM (M := fun k_ => (w.heap.size ≤ k_)) ho0 (below_size (by repeat (first | (with_reducible first | exact HB.out | apply below_alloc | apply pw_below_drewN | apply below_drew1) | exact HB.out))) (fun k_ h_ => h_)) (Kd.R_lt (by (with_reducible repeat (first | apply Kd.R_alloc | apply Kd.R_drewN | apply Kd.R_drew)); exact HO310.out))) (below_size (by repeat (first | (with_reducible first | exact HB.out | apply below_alloc | apply pw_below_drewN | apply below_drew1) | exact HB.out)))); have n3_ := Aside0.mk (below_step (by repeat (first | (with_reducible first | exact HB.out | apply below_alloc | apply pw_below_drewN | apply below_drew1) | exact HB.out)) hb); clear HO_1; clear HO310; clear HB; have HO_1 := n0_; have HO310 := n1_; have HO314 := n2_; have HB := n3_; clear n0_ n1_ n2_ n3_; (try clear hb); (try clear hb2); (try clear hk); (try clear hi); (try clear ho0); have p315 : 0 ≤ (x10_1 : Int) := of_decide_eq_true (by first | (with_reducible assumption) | assumption); have q315 : x10_1 < (l0.length : Int) := of_decide_eq_true (by first | (with_reducible assumption) | assumption); obtain ⟨ad315, A315_0, c315_0, e315, hx315_0, hx315_1, hx315_2, hx315_3, hl315_0, hi315_0⟩ := at_T79 HR0.out x10_1 p315 q315; obtain rfl : ad311 = ad315 := (by injection e315); replace hx315_0 := (HB.out.cell (World.block_lt_of_cell? w _ hx315_0)).trans hx315_0; replace hx315_1 := (HB.out.cell (World.block_lt_of_cell? w _ hx315_1)).trans hx315_1; replace hx315_2 := (HB.out.cell (World.block_lt_of_cell? w _ hx315_2)).trans hx315_2; replace hx315_3 := (HB.out.cell (World.block_lt_of_cell? w _ hx315_3)).trans hx315_3; have HR315_0 := Aside0.mk hi315_0; have HC315_0 := Aside0.mk hl315_0; clear hi315_0 hl315_0; replace p315 := eq_true p315; replace q315 := eq_true q315; have p320 : 0 ≤ (x10_1 : Int) := of_decide_eq_true (by first | (with_reducible assumption) | assumption); have q320 : x10_1 < (l0.length : Int) := of_decide_eq_true (by first | (with_reducible assumption) | assumption); obtain ⟨ad320, A320_0, c320_0, e320, hx320_0, hx320_1, hx320_2, hx320_3, hl320_0, hi320_0⟩ := at_T79 HR0.out x10_1 p320 q320; obtain rfl : ad311 = ad320 := (by injection e320); replace hx320_0 := (HB.out.cell (World.block_lt_of_cell? w _ hx320_0)).trans hx320_0; replace hx320_1 := (HB.out.cell (World.block_lt_of_cell? w _ hx320_1)).trans hx320_1; replace hx320_2 := (HB.out.cell (World.block_lt_of_cell? w _ hx320_2)).trans hx320_2; replace hx320_3 := (HB.out.cell (World.block_lt_of_cell? w _ hx320_3)).trans hx320_3; have HR320_0 := Aside0.mk hi320_0; have HC320_0 := Aside0.mk hl320_0; clear hi320_0 hl320_0; replace p320 := eq_true p320; replace q320 := eq_true q320; have ea_ := Option.some.inj (hx315_0.symm.trans hx320_0); injection ea_ with ea_ en_ ec_; subst ea_; subst ec_; clear en_))
                  go_roundg k1
                  case measure => have := HK1.out; omega
                  case rel => exact ⟨(t312), (y308), ((rd_T79 l0 x10_1).f2), (by first | rfl | (simp; done) | (simp [*]; done)), H', ⟨by have := HK1.out; omega⟩, ⟨Kd.V_mono (Kd.R_V HO314.out) (fun k_ hk => ⟨.inr hk.1.1, hk.2⟩)⟩, ⟨by (with_reducible repeat (first | apply Kd.R_alloc | apply Kd.R_drewN | apply Kd.R_drew)); exact Kd.R_mono HO310.out (fun _ hk => hk.1)⟩, ⟨by repeat (first | (with_reducible first | exact HB.out | apply below_alloc | apply pw_below_drewN | apply below_drew1) | exact HB.out)⟩⟩
              · rw [if_neg c9] at H
                exact absurd H (by simp)
            · rw [if_neg c8] at H
              exact absurd H (by simp)
          · rw [if_neg c7] at H
            exact absurd H (by simp)
end Go.Proofs.Ytaicamjpcnhjcaa.PA
namespace Go.Proofs.Ytaicamjpcnhjcaa.PA
open Go.RowKit Go.Proofs.YtaicamjpcnhjcaaW.PrintWords Go.Proofs.YtaicamjpcnhjcaaW.PrintLast Go.Proofs.YtaicamjpcnhjcaaW.PrintMore
set_option linter.unusedVariables false
set_option linter.unusedSimpArgs false
mutual
def codemasonref_Shaped.l0 : Nat → List Int → Int → List (S127) → Int → Int → Option (List Int × Int)
  | 0, _, _, _, _, _ => none
  | k + 1, x1, x2, x10, x11, x12 => if x12 < x11 then (if 0 ≤ x12 then (if x12 < (x10.length : Int) then (if ((rd_T127 x10 x12).f0) = 1 then ((codemasonref_Doing.f k ((rd_T127 x10 x12).f2) x1).bind fun t323 => (if x2 < 0 then (some (t323, x2)) else (codemasonref_Shaped.l0 k t323 x2 x10 x11 (wrap64 (x12 + 1))))) else (if ((rd_T127 x10 x12).f0) = 2 then (if 0 ≤ ((rd_T127 x10 x12).f1) then (if ((rd_T127 x10 x12).f1) < (x1.length : Int) then (if (rd x1 ((rd_T127 x10 x12).f1)) = 0 then ((codemasonref_Shaped.f k ((rd_T127 x10 x12).f4) x1 x2).bind fun bt327 => (if bt327.2 < 0 then (some (bt327.1, bt327.2)) else (codemasonref_Shaped.l0 k bt327.1 bt327.2 x10 x11 (wrap64 (x12 + 1))))) else ((codemasonref_Shaped.f k ((rd_T127 x10 x12).f3) x1 x2).bind fun bt331 => (if bt331.2 < 0 then (some (bt331.1, bt331.2)) else (codemasonref_Shaped.l0 k bt331.1 bt331.2 x10 x11 (wrap64 (x12 + 1)))))) else (none)) else (none)) else (if ((rd_T127 x10 x12).f0) = 3 then (codemasonref_Shaped.l1 k x1 x2 x10 x11 x12 ((rd_T127 x10 x12).f0) ((rd_T127 x10 x12).f1) ((rd_T127 x10 x12).f2) ((rd_T127 x10 x12).f3) ((rd_T127 x10 x12).f4)) else (if x2 < 0 then (some (x1, x2)) else (codemasonref_Shaped.l0 k x1 x2 x10 x11 (wrap64 (x12 + 1))))))) else (none)) else (none)) else (some (x1, x2))
def codemasonref_Shaped.l1 : Nat → List Int → Int → List (S127) → Int → Int → Int → Int → List (S111) → List (S127) → List (S127) → Option (List Int × Int)
  | 0, _, _, _, _, _, _, _, _, _, _ => none
  | k + 1, x1, x2, x10, x11, x12, x323000, x323001, x323002, x323003, x323004 => if x2 ≥ 0 then (if 0 ≤ x323001 then (if x323001 < (x1.length : Int) then (codemasonref_Shaped.j2 k x1 x2 x10 x11 x12 ((rd x1 x323001) != 0) x323000 x323001 x323002 x323003 x323004) else (none)) else (none)) else (codemasonref_Shaped.j2 k x1 x2 x10 x11 x12 false x323000 x323001 x323002 x323003 x323004)
def codemasonref_Shaped.j2 : Nat → List Int → Int → List (S127) → Int → Int → Bool → Int → Int → List (S111) → List (S127) → List (S127) → Option (List Int × Int)
  | 0, _, _, _, _, _, _, _, _, _, _, _ => none
  | k + 1, x1, x2, x10, x11, x12, x59, x323000, x323001, x323002, x323003, x323004 => if x59 = true then (if (wrap64 (x2 - 1)) ≥ 0 then ((codemasonref_Shaped.f k x323003 x1 (wrap64 (x2 - 1))).bind fun bt336 => (codemasonref_Shaped.l1 k bt336.1 bt336.2 x10 x11 x12 x323000 x323001 x323002 x323003 x323004)) else (codemasonref_Shaped.l1 k x1 (wrap64 (x2 - 1)) x10 x11 x12 x323000 x323001 x323002 x323003 x323004)) else (if x2 < 0 then (some (x1, x2)) else (codemasonref_Shaped.l0 k x1 x2 x10 x11 (wrap64 (x12 + 1))))
def codemasonref_Shaped.f : Nat → List (S127) → List Int → Int → Option (List Int × Int)
  | 0, _, _, _ => none
  | k + 1, l0, l1, a2 => codemasonref_Shaped.l0 k l1 a2 l0 (l0.length : Int) 0
end
theorem codemasonref_Shaped.mono_l : ∀ k, (∀ y0 y1 y2, LeO (codemasonref_Shaped.f k y0 y1 y2) (codemasonref_Shaped.f (k + 1) y0 y1 y2)) ∧ (∀ y0 y1 y2 y3 y4, LeO (codemasonref_Shaped.l0 k y0 y1 y2 y3 y4) (codemasonref_Shaped.l0 (k + 1) y0 y1 y2 y3 y4)) ∧ (∀ y0 y1 y2 y3 y4 y5 y6 y7 y8 y9, LeO (codemasonref_Shaped.l1 k y0 y1 y2 y3 y4 y5 y6 y7 y8 y9) (codemasonref_Shaped.l1 (k + 1) y0 y1 y2 y3 y4 y5 y6 y7 y8 y9)) ∧ (∀ y0 y1 y2 y3 y4 y5 y6 y7 y8 y9 y10, LeO (codemasonref_Shaped.j2 k y0 y1 y2 y3 y4 y5 y6 y7 y8 y9 y10) (codemasonref_Shaped.j2 (k + 1) y0 y1 y2 y3 y4 y5 y6 y7 y8 y9 y10))
  | 0 => ⟨fun _ _ _ r h => by simp [codemasonref_Shaped.f] at h, fun _ _ _ _ _ r h => by simp [codemasonref_Shaped.l0] at h, fun _ _ _ _ _ _ _ _ _ _ r h => by simp [codemasonref_Shaped.l1] at h, fun _ _ _ _ _ _ _ _ _ _ _ r h => by simp [codemasonref_Shaped.j2] at h⟩
  | k + 1 => by
    obtain ⟨ih0, ih1, ih2, ih3⟩ := codemasonref_Shaped.mono_l k
    refine ⟨?_, ?_, ?_, ?_⟩
    · intro y0 y1 y2
      unfold codemasonref_Shaped.f
      repeat' first
      | (with_reducible exact ih0 _ _ _)
      | (with_reducible exact ih1 _ _ _ _ _)
      | (with_reducible exact ih2 _ _ _ _ _ _ _ _ _ _)
      | (with_reducible exact ih3 _ _ _ _ _ _ _ _ _ _ _)
      | (with_reducible exact codemasonref_Doing.mono _ _ _)
      | (with_reducible exact LeO.refl _)
      | (with_reducible exact LeO.none _)
      | (with_reducible refine LeO.ite ?_ ?_)
      | (with_reducible refine LeO.bind ?_ (fun _ => ?_))
      | exact ih0 _ _ _
      | exact ih1 _ _ _ _ _
      | exact ih2 _ _ _ _ _ _ _ _ _ _
      | exact ih3 _ _ _ _ _ _ _ _ _ _ _
      | exact codemasonref_Doing.mono _ _ _
      | exact LeO.none _
      | refine LeO.ite ?_ ?_
      | refine LeO.bind ?_ (fun _ => ?_)
    · intro y0 y1 y2 y3 y4
      unfold codemasonref_Shaped.l0
      repeat' first
      | (with_reducible exact ih0 _ _ _)
      | (with_reducible exact ih1 _ _ _ _ _)
      | (with_reducible exact ih2 _ _ _ _ _ _ _ _ _ _)
      | (with_reducible exact ih3 _ _ _ _ _ _ _ _ _ _ _)
      | (with_reducible exact codemasonref_Doing.mono _ _ _)
      | (with_reducible exact LeO.refl _)
      | (with_reducible exact LeO.none _)
      | (with_reducible refine LeO.ite ?_ ?_)
      | (with_reducible refine LeO.bind ?_ (fun _ => ?_))
      | exact ih0 _ _ _
      | exact ih1 _ _ _ _ _
      | exact ih2 _ _ _ _ _ _ _ _ _ _
      | exact ih3 _ _ _ _ _ _ _ _ _ _ _
      | exact codemasonref_Doing.mono _ _ _
      | exact LeO.none _
      | refine LeO.ite ?_ ?_
      | refine LeO.bind ?_ (fun _ => ?_)
    · intro y0 y1 y2 y3 y4 y5 y6 y7 y8 y9
      unfold codemasonref_Shaped.l1
      repeat' first
      | (with_reducible exact ih0 _ _ _)
      | (with_reducible exact ih1 _ _ _ _ _)
      | (with_reducible exact ih2 _ _ _ _ _ _ _ _ _ _)
      | (with_reducible exact ih3 _ _ _ _ _ _ _ _ _ _ _)
      | (with_reducible exact codemasonref_Doing.mono _ _ _)
      | (with_reducible exact LeO.refl _)
      | (with_reducible exact LeO.none _)
      | (with_reducible refine LeO.ite ?_ ?_)
      | (with_reducible refine LeO.bind ?_ (fun _ => ?_))
      | exact ih0 _ _ _
      | exact ih1 _ _ _ _ _
      | exact ih2 _ _ _ _ _ _ _ _ _ _
      | exact ih3 _ _ _ _ _ _ _ _ _ _ _
      | exact codemasonref_Doing.mono _ _ _
      | exact LeO.none _
      | refine LeO.ite ?_ ?_
      | refine LeO.bind ?_ (fun _ => ?_)
    · intro y0 y1 y2 y3 y4 y5 y6 y7 y8 y9 y10
      unfold codemasonref_Shaped.j2
      repeat' first
      | (with_reducible exact ih0 _ _ _)
      | (with_reducible exact ih1 _ _ _ _ _)
      | (with_reducible exact ih2 _ _ _ _ _ _ _ _ _ _)
      | (with_reducible exact ih3 _ _ _ _ _ _ _ _ _ _ _)
      | (with_reducible exact codemasonref_Doing.mono _ _ _)
      | (with_reducible exact LeO.refl _)
      | (with_reducible exact LeO.none _)
      | (with_reducible refine LeO.ite ?_ ?_)
      | (with_reducible refine LeO.bind ?_ (fun _ => ?_))
      | exact ih0 _ _ _
      | exact ih1 _ _ _ _ _
      | exact ih2 _ _ _ _ _ _ _ _ _ _
      | exact ih3 _ _ _ _ _ _ _ _ _ _ _
      | exact codemasonref_Doing.mono _ _ _
      | exact LeO.none _
      | refine LeO.ite ?_ ?_
      | refine LeO.bind ?_ (fun _ => ?_)
theorem codemasonref_Shaped.mono : ∀ a0 a1 a2 k, LeO (codemasonref_Shaped.f k a0 a1 a2) (codemasonref_Shaped.f (k + 1) a0 a1 a2) := by
  intro a0 a1 a2 k
  obtain ⟨ih0, ih1, ih2, ih3⟩ := codemasonref_Shaped.mono_l k
  exact ih0 a0 a1 a2
set_option maxHeartbeats 8000000 in
set_option maxRecDepth 100000 in
theorem codemasonref_Shaped.calls (k : Nat) : ∀ (A0 : Option Addr) (c0 : Nat) (l0 : List (S127)) (P1_ : Nat → Prop) (A1 : Option Addr) (c1 : Nat) (l1 : List Int) (a2 : Int) (r1 : List Int) (r2 : Int) (w : World) (hr0 : Kd.C k127 w A0 l0.length l0) (hc0 : l0.length ≤ c0) (hs1 : Kd.V (Kd.int .i64) 3 w w.heap.size (fun k_ => P1_ k_) (.slice A1 l1.length c1) l1) (h : codemasonref_Shaped.f k l0 l1 a2 = some (r1, r2)),
    Calls Try.prog 35 #[.slice A0 l0.length c0, .slice A1 l1.length c1, .int .i64 a2] w fun e w' => ∃ v0_ : Value, e = .returned (.tuple #[v0_, .int .i64 r2]) ∧ Kd.V (Kd.int .i64) 3 w' w.heap.size (fun k_ => (P1_ k_ ∨ w.heap.size ≤ k_)) v0_ r1 ∧ Below w.heap.size w w' := by
  induction k using Nat.strongRecOn with
  | _ k ih =>
  intro A0 c0 l0 P1_ A1 c1 l1 a2 r1 r2 w hr0 hc0 hs1 h
  cases k with
  | zero => exact absurd h (by simp [codemasonref_Shaped.f])
  | succ k =>
  simp only [codemasonref_Shaped.f] at h
  have hu127 := Try.underlying127
  have HR0 := Aside0.mk hr0
  have HC0 := Aside0.mk hc0
  clear hr0 hc0
  have HO1 := Aside0.mk (show Kd.V (Kd.int .i64) 3 w w.heap.size (fun k_ => (P1_ k_ ∨ w.heap.size ≤ k_)) (.slice A1 l1.length c1) l1 from Kd.V_mono hs1 (fun k_ hk => .inl hk))
  have HB := Aside0.mk (Below.refl w.heap.size w)
  have H : (codemasonref_Shaped.l0 k l1 a2 l0 (l0.length : Int) 0) = some (r1, r2) := h
  clear h
  have H' := Aside0.mk H
  clear H
  go_enter Try.func35, Try.ntmps35
  go_wp2
  go_loopg [1, 2, 12] k (fun kq v1 v2 v12 w' => ∃ (x1_1 : List Int) (x2_1 : Int) (x12_1 : Int), v2 = .int .i64 x2_1 ∧ v12 = .int .i64 x12_1 ∧ Aside0 (codemasonref_Shaped.l0 kq x1_1 x2_1 l0 (l0.length : Int) x12_1 = some (r1, r2)) ∧ Aside0 (kq ≤ k) ∧ Aside0 (Kd.V (Kd.int .i64) 3 w' w.heap.size (fun k_ => (P1_ k_ ∨ w.heap.size ≤ k_)) v1 x1_1) ∧ Aside0 (Below w.heap.size w w'))
  case atStart => exact ⟨(l1), (a2), (0), (by first | rfl | (simp; done) | (simp [*]; done)), (by first | rfl | (simp; done) | (simp [*]; done)), H', ⟨Nat.le_refl _⟩, ⟨by (with_reducible repeat (first | apply Kd.V_alloc | apply Kd.V_drewN | apply Kd.V_drew)); exact HO1.out⟩, ⟨by repeat (first | (with_reducible first | exact HB.out | apply below_alloc | apply pw_below_drewN | apply below_drew1) | exact HB.out)⟩⟩
  case round =>
    clear H'
    try clear c1
    try clear p2
    try clear c3
    obtain ⟨x1_1, x2_1, x12_1, rfl, rfl, HA, HK1, HO_1, HB⟩ := hrel
    cases gk with
    | zero => exact absurd HA.out (by simp [codemasonref_Shaped.l0])
    | succ k1 =>
      have H := HA.out
      clear HA
      simp only [codemasonref_Shaped.l0] at H
      by_cases c4 : x12_1 < (l0.length : Int)
      · rw [if_pos c4] at H
        have c4b0 : decide (x12_1 < (l0.length : Int)) = true := decide_eq_true c4
        clear c4
        by_cases c5 : 0 ≤ x12_1
        · rw [if_pos c5] at H
          have c5b0 : decide (0 ≤ x12_1) = true := decide_eq_true c5
          clear c5
          by_cases c6 : x12_1 < (l0.length : Int)
          · rw [if_pos c6] at H
            have c6b0 : decide (x12_1 < (l0.length : Int)) = true := decide_eq_true c6
            clear c6
            by_cases c7 : ((rd_T127 l0 x12_1).f0) = 1
            · rw [if_pos c7] at H
              have c7b0 : (((rd_T127 l0 x12_1).f0) == 1) = true := beq_iff_eq.mpr c7
              have c7b1 : (((rd_T127 l0 x12_1).f0) != 1) = false := bne_eq_false_iff_eq.mpr c7
              clear c7
              replace H := Option.bind_eq_some_iff.mp H
              obtain ⟨t323, A80, H⟩ := H
              replace H : (if x2_1 < 0 then (some (t323, x2_1)) else (codemasonref_Shaped.l0 k1 t323 x2_1 l0 (l0.length : Int) (wrap64 (x12_1 + 1)))) = some (r1, r2) := H
              have A8 := Aside0.mk A80
              clear A80
              by_cases c9 : x2_1 < 0
              · rw [if_pos c9] at H
                have c9b0 : decide (x2_1 < 0) = true := decide_eq_true c9
                clear c9
                simp only [Option.some.injEq, Prod.mk.injEq] at H
                obtain ⟨rfl, rfl⟩ := H
                have p321 : 0 ≤ (x12_1 : Int) := of_decide_eq_true (by first | (with_reducible assumption) | assumption)
                have q321 : x12_1 < (l0.length : Int) := of_decide_eq_true (by first | (with_reducible assumption) | assumption)
                obtain ⟨ad321, A321_2, c321_2, A321_3, c321_3, A321_4, c321_4, e321, hx321_0, hx321_1, hx321_2, hx321_3, hx321_4, hl321_2, hi321_2, hl321_3, hi321_3, hl321_4, hi321_4⟩ := at_T127 HR0.out x12_1 p321 q321
                cases e321
                replace hx321_0 := (HB.out.cell (World.block_lt_of_cell? w _ hx321_0)).trans hx321_0
                replace hx321_1 := (HB.out.cell (World.block_lt_of_cell? w _ hx321_1)).trans hx321_1
                replace hx321_2 := (HB.out.cell (World.block_lt_of_cell? w _ hx321_2)).trans hx321_2
                replace hx321_3 := (HB.out.cell (World.block_lt_of_cell? w _ hx321_3)).trans hx321_3
                replace hx321_4 := (HB.out.cell (World.block_lt_of_cell? w _ hx321_4)).trans hx321_4
                have HR321_2 := Aside0.mk hi321_2
                have HC321_2 := Aside0.mk hl321_2
                clear hi321_2 hl321_2
                have HR321_3 := Aside0.mk hi321_3
                have HC321_3 := Aside0.mk hl321_3
                clear hi321_3 hl321_3
                have HR321_4 := Aside0.mk hi321_4
                have HC321_4 := Aside0.mk hl321_4
                clear hi321_4 hl321_4
                replace p321 := eq_true p321
                replace q321 := eq_true q321
                go_wp2_with (first | ((with_reducible refine gate_dst (N := 9) rfl ?_); refine box_event ?hg (N := 9) ?hd (cs := #[.int .i64 0, .int .i64 0, .slice none 0 0, .slice none 0 0, .slice none 0 0]) (t := 127) ?hr ?_; (case hd => rfl); (case hg => rfl); (case hr => first | (go_simp; done) | (go_simp; rfl)); intro gb322 hg w10 hbox hb; have n0_ := Aside0.mk (Kd.V_below (Kd.V_elderB (by (with_reducible repeat (first | apply Kd.V_alloc | apply Kd.V_drewN | apply Kd.V_drew)); exact HO_1.out) gb322 (Nat.le_of_eq hg.symm)) hb); have n1_ := Aside0.mk (below_step (by repeat (first | (with_reducible first | exact HB.out | apply below_alloc | apply pw_below_drewN | apply below_drew1) | exact HB.out)) hb); have n2_ := Aside0.mk (hbox); have n3_ := Aside0.mk ((by rw [hg]; exact (below_size (by repeat (first | (with_reducible first | exact HB.out | apply below_alloc | apply pw_below_drewN | apply below_drew1) | exact HB.out))) : w.heap.size ≤ gb322)); have n4_ := Aside0.mk ((by rw [hg]; exact (below_size (by repeat (first | (with_reducible first | exact HB.out | apply below_alloc | apply pw_below_drewN | apply below_drew1) | exact HB.out))) : w.heap.size ≤ gb322)); clear HO_1; clear HB; have HO_1 := n0_; have HB := n1_; have BK322 := n2_; have GW322 := n3_; have GE322 := n4_; clear n0_ n1_ n2_ n3_ n4_; clear hb hbox hg; have hcz11_0 : w10.cell? ⟨gb322, 0, none⟩ = some (.int .i64 0) := (blk_cell BK322.out 0).trans rfl; have hcz11_1 : w10.cell? ⟨gb322, 1, none⟩ = some (.int .i64 0) := (blk_cell BK322.out 1).trans rfl; have hcz11_2 : w10.cell? ⟨gb322, 2, none⟩ = some (.slice none 0 0) := (blk_cell BK322.out 2).trans rfl; have hcz11_3 : w10.cell? ⟨gb322, 3, none⟩ = some (.slice none 0 0) := (blk_cell BK322.out 3).trans rfl; have hcz11_4 : w10.cell? ⟨gb322, 4, none⟩ = some (.slice none 0 0) := (blk_cell BK322.out 4).trans rfl; have hfz11_0 := blk_frozen BK322.out 0; have hfz11_1 := blk_frozen BK322.out 1; have hfz11_2 := blk_frozen BK322.out 2; have hfz11_3 := blk_frozen BK322.out 3; have hfz11_4 := blk_frozen BK322.out 4; obtain ⟨Ao12, co12, eo12⟩ := Kd.V_slice HO_1.out; subst eo12) | ((with_reducible refine gate_callee (f := 83) rfl ?_); refine goesL_ (some 23) rfl rfl Try.func83 (by kernel_rfl) rfl #[.slice A321_2 ((rd_T127 l0 x12_1).f2).length c321_2, .slice Ao12 x1_1.length co12] rfl (by (try simp only [List.map_toArray, List.map_cons, List.map_nil]); first | done | rfl | (simp only [List.length_drop, List.length_take]; rfl)) ?_; (with_reducible refine (codemasonref_Doing.calls k1 _ _ ((rd_T127 l0 x12_1).f2) _ _ x1_1 t323 _ ?side1 ?side2 ?side3 ?side4 A8.out).mono ?_); (case side1 => exact Kd.C_below HR321_2.out (by repeat (first | (with_reducible first | exact HB.out | apply below_alloc | apply pw_below_drewN | apply below_drew1 | refine below_set ?_ GE322.out) | exact HB.out))); (case side2 => exact HC321_2.out); (case side3 => refine (Kd.V_reads' (e := 3) (base := w.heap.size) (ok := fun k_ => ((P1_ k_ ∨ w.heap.size ≤ k_) ∧ k_ ≠ gb322)) (n := x1_1.length) (c := co12) ?_).2.2; exact (by (with_reducible repeat (first | apply Kd.V_alloc | apply Kd.V_drewN | apply Kd.V_drew)); exact (Kd.V_mono (Kd.V_far (p := ⟨gb322, 4, none⟩) (Kd.V_far (p := ⟨gb322, 3, none⟩) (Kd.V_far (p := ⟨gb322, 2, none⟩) (Kd.V_far (p := ⟨gb322, 1, none⟩) (Kd.V_far (p := ⟨gb322, 0, none⟩) (Kd.V_mono HO_1.out (fun k_ hk => (⟨hk, hk.2⟩ : _ ∧ k_ ≠ gb322))) (fun _ hk => hk.2) (.int .i64 ((rd_T127 l0 x12_1).f0))) (fun _ hk => hk.2) (.int .i64 ((rd_T127 l0 x12_1).f1))) (fun _ hk => hk.2) (.slice A321_2 ((rd_T127 l0 x12_1).f2).length c321_2)) (fun _ hk => hk.2) (.slice A321_3 ((rd_T127 l0 x12_1).f3).length c321_3)) (fun _ hk => hk.2) (.slice A321_4 ((rd_T127 l0 x12_1).f4).length c321_4)) (fun _ h_ => h_.1)))); (case side4 => exact (Kd.V_reads' HO_1.out).2.1); rintro e w13 ⟨v324, rfl, ho0, hb⟩; refine ⟨_, rfl, ?_⟩; have n0_ := Aside0.mk (Kd.V_elder' (by (with_reducible repeat (first | apply Kd.V_alloc | apply Kd.V_drewN | apply Kd.V_drew)); exact (Kd.V_mono (Kd.V_far (p := ⟨gb322, 4, none⟩) (Kd.V_far (p := ⟨gb322, 3, none⟩) (Kd.V_far (p := ⟨gb322, 2, none⟩) (Kd.V_far (p := ⟨gb322, 1, none⟩) (Kd.V_far (p := ⟨gb322, 0, none⟩) (Kd.V_mono HO_1.out (fun k_ hk => (⟨hk, hk.2⟩ : _ ∧ k_ ≠ gb322))) (fun _ hk => hk.2) (.int .i64 ((rd_T127 l0 x12_1).f0))) (fun _ hk => hk.2) (.int .i64 ((rd_T127 l0 x12_1).f1))) (fun _ hk => hk.2) (.slice A321_2 ((rd_T127 l0 x12_1).f2).length c321_2)) (fun _ hk => hk.2) (.slice A321_3 ((rd_T127 l0 x12_1).f3).length c321_3)) (fun _ hk => hk.2) (.slice A321_4 ((rd_T127 l0 x12_1).f4).length c321_4)) (fun _ h_ => h_.1))) (Kd.R_base ho0) hb); have n1_ := Aside0.mk (Kd.R_lower (Kd.R_newM (M := fun k_ => (w.heap.size ≤ k_)) ho0 (below_size (by repeat (first | (with_reducible first | exact HB.out | apply below_alloc | apply pw_below_drewN | apply below_drew1 | refine below_set ?_ GE322.out) | exact HB.out))) (fun k_ h_ => h_)) (below_size (by repeat (first | (with_reducible first | exact HB.out | apply below_alloc | apply pw_below_drewN | apply below_drew1 | refine below_set ?_ GE322.out) | exact HB.out)))); have n2_ := Aside0.mk (blk_below (g := gb322) (o := .cells #[.int .i64 ((rd_T127 l0 x12_1).f0), .int .i64 ((rd_T127 l0 x12_1).f1), .slice A321_2 ((rd_T127 l0 x12_1).f2).length c321_2, .slice A321_3 ((rd_T127 l0 x12_1).f3).length c321_3, .slice A321_4 ((rd_T127 l0 x12_1).f4).length c321_4] 127 (0, 0)) (by (with_reducible repeat (first | refine blk_drewN ?_ _ | refine blk_drew ?_ | refine blk_alloc ?_ _)); refine blk_put (cs := #[.int .i64 ((rd_T127 l0 x12_1).f0), .int .i64 ((rd_T127 l0 x12_1).f1), .slice A321_2 ((rd_T127 l0 x12_1).f2).length c321_2, .slice A321_3 ((rd_T127 l0 x12_1).f3).length c321_3, .slice none 0 0]) ?_ 4 _ rfl; (with_reducible repeat (first | refine blk_drewN ?_ _ | refine blk_drew ?_ | refine blk_alloc ?_ _)); refine blk_put (cs := #[.int .i64 ((rd_T127 l0 x12_1).f0), .int .i64 ((rd_T127 l0 x12_1).f1), .slice A321_2 ((rd_T127 l0 x12_1).f2).length c321_2, .slice none 0 0, .slice none 0 0]) ?_ 3 _ rfl; (with_reducible repeat (first | refine blk_drewN ?_ _ | refine blk_drew ?_ | refine blk_alloc ?_ _)); refine blk_put (cs := #[.int .i64 ((rd_T127 l0 x12_1).f0), .int .i64 ((rd_T127 l0 x12_1).f1), .slice none 0 0, .slice none 0 0, .slice none 0 0]) ?_ 2 _ rfl; (with_reducible repeat (first | refine blk_drewN ?_ _ | refine blk_drew ?_ | refine blk_alloc ?_ _)); refine blk_put (cs := #[.int .i64 ((rd_T127 l0 x12_1).f0), .int .i64 0, .slice none 0 0, .slice none 0 0, .slice none 0 0]) ?_ 1 _ rfl; (with_reducible repeat (first | refine blk_drewN ?_ _ | refine blk_drew ?_ | refine blk_alloc ?_ _)); refine blk_put (cs := #[.int .i64 0, .int .i64 0, .slice none 0 0, .slice none 0 0, .slice none 0 0]) ?_ 0 _ rfl; (with_reducible repeat (first | refine blk_drewN ?_ _ | refine blk_drew ?_ | refine blk_alloc ?_ _)); exact BK322.out) hb); have n3_ := Aside0.mk (below_step (by repeat (first | (with_reducible first | exact HB.out | apply below_alloc | apply pw_below_drewN | apply below_drew1 | refine below_set ?_ GE322.out) | exact HB.out)) hb); clear HO_1; clear BK322; clear HB; have HO_1 := n0_; have HO325 := n1_; have BK322 := n2_; have HB := n3_; clear n0_ n1_ n2_ n3_; (try clear hb); (try clear hb2); (try clear hk); (try clear hi); (try clear ho0)))
                go_ret2
                exact ⟨_, by first | rfl | (simp [errW_none, errW_some] <;> rfl) | (simp [*, errW_none, errW_some] <;> rfl), Kd.V_mono (Kd.R_V (by (with_reducible repeat (first | apply Kd.R_alloc | apply Kd.R_drewN | apply Kd.R_drew)); exact Kd.R_mono HO325.out (fun _ hk => hk.1))) (fun k_ hk => by first | exact ⟨(.inr (hk.1)), hk.2⟩ | exact (.inr (hk))), by repeat (first | (with_reducible first | exact HB.out | apply below_alloc | apply pw_below_drewN | apply below_drew1 | refine below_set ?_ GE322.out) | exact HB.out)⟩
              · rw [if_neg c9] at H
                have c9b0 : decide (x2_1 < 0) = false := decide_eq_false c9
                clear c9
                have H' := Aside0.mk H
                clear H
                have p321 : 0 ≤ (x12_1 : Int) := of_decide_eq_true (by first | (with_reducible assumption) | assumption)
                have q321 : x12_1 < (l0.length : Int) := of_decide_eq_true (by first | (with_reducible assumption) | assumption)
                obtain ⟨ad321, A321_2, c321_2, A321_3, c321_3, A321_4, c321_4, e321, hx321_0, hx321_1, hx321_2, hx321_3, hx321_4, hl321_2, hi321_2, hl321_3, hi321_3, hl321_4, hi321_4⟩ := at_T127 HR0.out x12_1 p321 q321
                cases e321
                replace hx321_0 := (HB.out.cell (World.block_lt_of_cell? w _ hx321_0)).trans hx321_0
                replace hx321_1 := (HB.out.cell (World.block_lt_of_cell? w _ hx321_1)).trans hx321_1
                replace hx321_2 := (HB.out.cell (World.block_lt_of_cell? w _ hx321_2)).trans hx321_2
                replace hx321_3 := (HB.out.cell (World.block_lt_of_cell? w _ hx321_3)).trans hx321_3
                replace hx321_4 := (HB.out.cell (World.block_lt_of_cell? w _ hx321_4)).trans hx321_4
                have HR321_2 := Aside0.mk hi321_2
                have HC321_2 := Aside0.mk hl321_2
                clear hi321_2 hl321_2
                have HR321_3 := Aside0.mk hi321_3
                have HC321_3 := Aside0.mk hl321_3
                clear hi321_3 hl321_3
                have HR321_4 := Aside0.mk hi321_4
                have HC321_4 := Aside0.mk hl321_4
                clear hi321_4 hl321_4
                replace p321 := eq_true p321
                replace q321 := eq_true q321
                go_wp2_with (first | ((with_reducible refine gate_dst (N := 9) rfl ?_); refine box_event ?hg (N := 9) ?hd (cs := #[.int .i64 0, .int .i64 0, .slice none 0 0, .slice none 0 0, .slice none 0 0]) (t := 127) ?hr ?_; (case hd => rfl); (case hg => rfl); (case hr => first | (go_simp; done) | (go_simp; rfl)); intro gb322 hg w14 hbox hb; have n0_ := Aside0.mk (Kd.V_below (Kd.V_elderB (by (with_reducible repeat (first | apply Kd.V_alloc | apply Kd.V_drewN | apply Kd.V_drew)); exact HO_1.out) gb322 (Nat.le_of_eq hg.symm)) hb); have n1_ := Aside0.mk (below_step (by repeat (first | (with_reducible first | exact HB.out | apply below_alloc | apply pw_below_drewN | apply below_drew1) | exact HB.out)) hb); have n2_ := Aside0.mk (hbox); have n3_ := Aside0.mk ((by rw [hg]; exact (below_size (by repeat (first | (with_reducible first | exact HB.out | apply below_alloc | apply pw_below_drewN | apply below_drew1) | exact HB.out))) : w.heap.size ≤ gb322)); have n4_ := Aside0.mk ((by rw [hg]; exact (below_size (by repeat (first | (with_reducible first | exact HB.out | apply below_alloc | apply pw_below_drewN | apply below_drew1) | exact HB.out))) : w.heap.size ≤ gb322)); clear HO_1; clear HB; have HO_1 := n0_; have HB := n1_; have BK322 := n2_; have GW322 := n3_; have GE322 := n4_; clear n0_ n1_ n2_ n3_ n4_; clear hb hbox hg; have hcz15_0 : w14.cell? ⟨gb322, 0, none⟩ = some (.int .i64 0) := (blk_cell BK322.out 0).trans rfl; have hcz15_1 : w14.cell? ⟨gb322, 1, none⟩ = some (.int .i64 0) := (blk_cell BK322.out 1).trans rfl; have hcz15_2 : w14.cell? ⟨gb322, 2, none⟩ = some (.slice none 0 0) := (blk_cell BK322.out 2).trans rfl; have hcz15_3 : w14.cell? ⟨gb322, 3, none⟩ = some (.slice none 0 0) := (blk_cell BK322.out 3).trans rfl; have hcz15_4 : w14.cell? ⟨gb322, 4, none⟩ = some (.slice none 0 0) := (blk_cell BK322.out 4).trans rfl; have hfz15_0 := blk_frozen BK322.out 0; have hfz15_1 := blk_frozen BK322.out 1; have hfz15_2 := blk_frozen BK322.out 2; have hfz15_3 := blk_frozen BK322.out 3; have hfz15_4 := blk_frozen BK322.out 4; obtain ⟨Ao16, co16, eo16⟩ := Kd.V_slice HO_1.out; subst eo16) | ((with_reducible refine gate_callee (f := 83) rfl ?_); refine goesL_ (some 23) rfl rfl Try.func83 (by kernel_rfl) rfl #[.slice A321_2 ((rd_T127 l0 x12_1).f2).length c321_2, .slice Ao16 x1_1.length co16] rfl (by (try simp only [List.map_toArray, List.map_cons, List.map_nil]); first | done | rfl | (simp only [List.length_drop, List.length_take]; rfl)) ?_; (with_reducible refine (codemasonref_Doing.calls k1 _ _ ((rd_T127 l0 x12_1).f2) _ _ x1_1 t323 _ ?side1 ?side2 ?side3 ?side4 A8.out).mono ?_); (case side1 => exact Kd.C_below HR321_2.out (by repeat (first | (with_reducible first | exact HB.out | apply below_alloc | apply pw_below_drewN | apply below_drew1 | refine below_set ?_ GE322.out) | exact HB.out))); (case side2 => exact HC321_2.out); (case side3 => refine (Kd.V_reads' (e := 3) (base := w.heap.size) (ok := fun k_ => ((P1_ k_ ∨ w.heap.size ≤ k_) ∧ k_ ≠ gb322)) (n := x1_1.length) (c := co16) ?_).2.2; exact (by (with_reducible repeat (first | apply Kd.V_alloc | apply Kd.V_drewN | apply Kd.V_drew)); exact (Kd.V_mono (Kd.V_far (p := ⟨gb322, 4, none⟩) (Kd.V_far (p := ⟨gb322, 3, none⟩) (Kd.V_far (p := ⟨gb322, 2, none⟩) (Kd.V_far (p := ⟨gb322, 1, none⟩) (Kd.V_far (p := ⟨gb322, 0, none⟩) (Kd.V_mono HO_1.out (fun k_ hk => (⟨hk, hk.2⟩ : _ ∧ k_ ≠ gb322))) (fun _ hk => hk.2) (.int .i64 ((rd_T127 l0 x12_1).f0))) (fun _ hk => hk.2) (.int .i64 ((rd_T127 l0 x12_1).f1))) (fun _ hk => hk.2) (.slice A321_2 ((rd_T127 l0 x12_1).f2).length c321_2)) (fun _ hk => hk.2) (.slice A321_3 ((rd_T127 l0 x12_1).f3).length c321_3)) (fun _ hk => hk.2) (.slice A321_4 ((rd_T127 l0 x12_1).f4).length c321_4)) (fun _ h_ => h_.1)))); (case side4 => exact (Kd.V_reads' HO_1.out).2.1); rintro e w17 ⟨v324, rfl, ho0, hb⟩; refine ⟨_, rfl, ?_⟩; have n0_ := Aside0.mk (Kd.V_elder' (by (with_reducible repeat (first | apply Kd.V_alloc | apply Kd.V_drewN | apply Kd.V_drew)); exact (Kd.V_mono (Kd.V_far (p := ⟨gb322, 4, none⟩) (Kd.V_far (p := ⟨gb322, 3, none⟩) (Kd.V_far (p := ⟨gb322, 2, none⟩) (Kd.V_far (p := ⟨gb322, 1, none⟩) (Kd.V_far (p := ⟨gb322, 0, none⟩) (Kd.V_mono HO_1.out (fun k_ hk => (⟨hk, hk.2⟩ : _ ∧ k_ ≠ gb322))) (fun _ hk => hk.2) (.int .i64 ((rd_T127 l0 x12_1).f0))) (fun _ hk => hk.2) (.int .i64 ((rd_T127 l0 x12_1).f1))) (fun _ hk => hk.2) (.slice A321_2 ((rd_T127 l0 x12_1).f2).length c321_2)) (fun _ hk => hk.2) (.slice A321_3 ((rd_T127 l0 x12_1).f3).length c321_3)) (fun _ hk => hk.2) (.slice A321_4 ((rd_T127 l0 x12_1).f4).length c321_4)) (fun _ h_ => h_.1))) (Kd.R_base ho0) hb); have n1_ := Aside0.mk (Kd.R_lower (Kd.R_newM (M := fun k_ => (w.heap.size ≤ k_)) ho0 (below_size (by repeat (first | (with_reducible first | exact HB.out | apply below_alloc | apply pw_below_drewN | apply below_drew1 | refine below_set ?_ GE322.out) | exact HB.out))) (fun k_ h_ => h_)) (below_size (by repeat (first | (with_reducible first | exact HB.out | apply below_alloc | apply pw_below_drewN | apply below_drew1 | refine below_set ?_ GE322.out) | exact HB.out)))); have n2_ := Aside0.mk (blk_below (g := gb322) (o := .cells #[.int .i64 ((rd_T127 l0 x12_1).f0), .int .i64 ((rd_T127 l0 x12_1).f1), .slice A321_2 ((rd_T127 l0 x12_1).f2).length c321_2, .slice A321_3 ((rd_T127 l0 x12_1).f3).length c321_3, .slice A321_4 ((rd_T127 l0 x12_1).f4).length c321_4] 127 (0, 0)) (by (with_reducible repeat (first | refine blk_drewN ?_ _ | refine blk_drew ?_ | refine blk_alloc ?_ _)); refine blk_put (cs := #[.int .i64 ((rd_T127 l0 x12_1).f0), .int .i64 ((rd_T127 l0 x12_1).f1), .slice A321_2 ((rd_T127 l0 x12_1).f2).length c321_2, .slice A321_3 ((rd_T127 l0 x12_1).f3).length c321_3, .slice none 0 0]) ?_ 4 _ rfl; (with_reducible repeat (first | refine blk_drewN ?_ _ | refine blk_drew ?_ | refine blk_alloc ?_ _)); refine blk_put (cs := #[.int .i64 ((rd_T127 l0 x12_1).f0), .int .i64 ((rd_T127 l0 x12_1).f1), .slice A321_2 ((rd_T127 l0 x12_1).f2).length c321_2, .slice none 0 0, .slice none 0 0]) ?_ 3 _ rfl; (with_reducible repeat (first | refine blk_drewN ?_ _ | refine blk_drew ?_ | refine blk_alloc ?_ _)); refine blk_put (cs := #[.int .i64 ((rd_T127 l0 x12_1).f0), .int .i64 ((rd_T127 l0 x12_1).f1), .slice none 0 0, .slice none 0 0, .slice none 0 0]) ?_ 2 _ rfl; (with_reducible repeat (first | refine blk_drewN ?_ _ | refine blk_drew ?_ | refine blk_alloc ?_ _)); refine blk_put (cs := #[.int .i64 ((rd_T127 l0 x12_1).f0), .int .i64 0, .slice none 0 0, .slice none 0 0, .slice none 0 0]) ?_ 1 _ rfl; (with_reducible repeat (first | refine blk_drewN ?_ _ | refine blk_drew ?_ | refine blk_alloc ?_ _)); refine blk_put (cs := #[.int .i64 0, .int .i64 0, .slice none 0 0, .slice none 0 0, .slice none 0 0]) ?_ 0 _ rfl; (with_reducible repeat (first | refine blk_drewN ?_ _ | refine blk_drew ?_ | refine blk_alloc ?_ _)); exact BK322.out) hb); have n3_ := Aside0.mk (below_step (by repeat (first | (with_reducible first | exact HB.out | apply below_alloc | apply pw_below_drewN | apply below_drew1 | refine below_set ?_ GE322.out) | exact HB.out)) hb); clear HO_1; clear BK322; clear HB; have HO_1 := n0_; have HO325 := n1_; have BK322 := n2_; have HB := n3_; clear n0_ n1_ n2_ n3_; (try clear hb); (try clear hb2); (try clear hk); (try clear hi); (try clear ho0)))
                go_roundg k1
                case measure => have := HK1.out; omega
                case rel => exact ⟨(t323), (x2_1), (wrap64 (x12_1 + 1)), (by first | rfl | (simp; done) | (simp [*]; done)), (by first | rfl | (simp; done) | (simp [*]; done)), H', ⟨by have := HK1.out; omega⟩, ⟨Kd.V_mono (Kd.R_V (by (with_reducible repeat (first | apply Kd.R_alloc | apply Kd.R_drewN | apply Kd.R_drew)); exact Kd.R_mono HO325.out (fun _ hk => hk.1))) (fun k_ hk => by first | exact ⟨(.inr (hk.1)), hk.2⟩ | exact (.inr (hk)))⟩, ⟨by repeat (first | (with_reducible first | exact HB.out | apply below_alloc | apply pw_below_drewN | apply below_drew1 | refine below_set ?_ GE322.out) | exact HB.out)⟩⟩
            · rw [if_neg c7] at H
              have c7b0 : (((rd_T127 l0 x12_1).f0) == 1) = false := beq_eq_false_iff_ne.mpr c7
              have c7b1 : (((rd_T127 l0 x12_1).f0) != 1) = true := bne_iff_ne.mpr c7
              by_cases c18 : ((rd_T127 l0 x12_1).f0) = 2
              · rw [if_pos c18] at H
                have c18b0 : (((rd_T127 l0 x12_1).f0) == 2) = true := beq_iff_eq.mpr c18
                have c18b1 : (((rd_T127 l0 x12_1).f0) != 2) = false := bne_eq_false_iff_eq.mpr c18
                clear c18
                by_cases c19 : 0 ≤ ((rd_T127 l0 x12_1).f1)
                · rw [if_pos c19] at H
                  have c19b0 : decide (0 ≤ ((rd_T127 l0 x12_1).f1)) = true := decide_eq_true c19
                  clear c19
                  by_cases c20 : ((rd_T127 l0 x12_1).f1) < (x1_1.length : Int)
                  · rw [if_pos c20] at H
                    have c20b0 : decide (((rd_T127 l0 x12_1).f1) < (x1_1.length : Int)) = true := decide_eq_true c20
                    clear c20
                    by_cases c21 : (rd x1_1 ((rd_T127 l0 x12_1).f1)) = 0
                    · rw [if_pos c21] at H
                      have c21b0 : ((rd x1_1 ((rd_T127 l0 x12_1).f1)) == 0) = true := beq_iff_eq.mpr c21
                      have c21b1 : ((rd x1_1 ((rd_T127 l0 x12_1).f1)) != 0) = false := bne_eq_false_iff_eq.mpr c21
                      clear c21
                      replace H := Option.bind_eq_some_iff.mp H
                      obtain ⟨⟨t327, t330⟩, A220, H⟩ := H
                      replace H : (if t330 < 0 then (some (t327, t330)) else (codemasonref_Shaped.l0 k1 t327 t330 l0 (l0.length : Int) (wrap64 (x12_1 + 1)))) = some (r1, r2) := H
                      have A22 := Aside0.mk A220
                      clear A220
                      by_cases c23 : t330 < 0
                      · rw [if_pos c23] at H
                        have c23b0 : decide (t330 < 0) = true := decide_eq_true c23
                        clear c23
                        simp only [Option.some.injEq, Prod.mk.injEq] at H
                        obtain ⟨rfl, rfl⟩ := H
                        have p321 : 0 ≤ (x12_1 : Int) := of_decide_eq_true (by first | (with_reducible assumption) | assumption)
                        have q321 : x12_1 < (l0.length : Int) := of_decide_eq_true (by first | (with_reducible assumption) | assumption)
                        obtain ⟨ad321, A321_2, c321_2, A321_3, c321_3, A321_4, c321_4, e321, hx321_0, hx321_1, hx321_2, hx321_3, hx321_4, hl321_2, hi321_2, hl321_3, hi321_3, hl321_4, hi321_4⟩ := at_T127 HR0.out x12_1 p321 q321
                        cases e321
                        replace hx321_0 := (HB.out.cell (World.block_lt_of_cell? w _ hx321_0)).trans hx321_0
                        replace hx321_1 := (HB.out.cell (World.block_lt_of_cell? w _ hx321_1)).trans hx321_1
                        replace hx321_2 := (HB.out.cell (World.block_lt_of_cell? w _ hx321_2)).trans hx321_2
                        replace hx321_3 := (HB.out.cell (World.block_lt_of_cell? w _ hx321_3)).trans hx321_3
                        replace hx321_4 := (HB.out.cell (World.block_lt_of_cell? w _ hx321_4)).trans hx321_4
                        have HR321_2 := Aside0.mk hi321_2
                        have HC321_2 := Aside0.mk hl321_2
                        clear hi321_2 hl321_2
                        have HR321_3 := Aside0.mk hi321_3
                        have HC321_3 := Aside0.mk hl321_3
                        clear hi321_3 hl321_3
                        have HR321_4 := Aside0.mk hi321_4
                        have HC321_4 := Aside0.mk hl321_4
                        clear hi321_4 hl321_4
                        replace p321 := eq_true p321
                        replace q321 := eq_true q321
                        go_wp2_with (first | ((with_reducible refine gate_dst (N := 9) rfl ?_); refine box_event ?hg (N := 9) ?hd (cs := #[.int .i64 0, .int .i64 0, .slice none 0 0, .slice none 0 0, .slice none 0 0]) (t := 127) ?hr ?_; (case hd => rfl); (case hg => rfl); (case hr => first | (go_simp; done) | (go_simp; rfl)); intro gb322 hg w24 hbox hb; have n0_ := Aside0.mk (Kd.V_below (Kd.V_elderB (by (with_reducible repeat (first | apply Kd.V_alloc | apply Kd.V_drewN | apply Kd.V_drew)); exact HO_1.out) gb322 (Nat.le_of_eq hg.symm)) hb); have n1_ := Aside0.mk (below_step (by repeat (first | (with_reducible first | exact HB.out | apply below_alloc | apply pw_below_drewN | apply below_drew1) | exact HB.out)) hb); have n2_ := Aside0.mk (hbox); have n3_ := Aside0.mk ((by rw [hg]; exact (below_size (by repeat (first | (with_reducible first | exact HB.out | apply below_alloc | apply pw_below_drewN | apply below_drew1) | exact HB.out))) : w.heap.size ≤ gb322)); have n4_ := Aside0.mk ((by rw [hg]; exact (below_size (by repeat (first | (with_reducible first | exact HB.out | apply below_alloc | apply pw_below_drewN | apply below_drew1) | exact HB.out))) : w.heap.size ≤ gb322)); clear HO_1; clear HB; have HO_1 := n0_; have HB := n1_; have BK322 := n2_; have GW322 := n3_; have GE322 := n4_; clear n0_ n1_ n2_ n3_ n4_; clear hb hbox hg; have hcz25_0 : w24.cell? ⟨gb322, 0, none⟩ = some (.int .i64 0) := (blk_cell BK322.out 0).trans rfl; have hcz25_1 : w24.cell? ⟨gb322, 1, none⟩ = some (.int .i64 0) := (blk_cell BK322.out 1).trans rfl; have hcz25_2 : w24.cell? ⟨gb322, 2, none⟩ = some (.slice none 0 0) := (blk_cell BK322.out 2).trans rfl; have hcz25_3 : w24.cell? ⟨gb322, 3, none⟩ = some (.slice none 0 0) := (blk_cell BK322.out 3).trans rfl; have hcz25_4 : w24.cell? ⟨gb322, 4, none⟩ = some (.slice none 0 0) := (blk_cell BK322.out 4).trans rfl; have hfz25_0 := blk_frozen BK322.out 0; have hfz25_1 := blk_frozen BK322.out 1; have hfz25_2 := blk_frozen BK322.out 2; have hfz25_3 := blk_frozen BK322.out 3; have hfz25_4 := blk_frozen BK322.out 4) | ((with_reducible refine gate_store (t := 127) (p := 9) rfl ?_); refine store_event (t := 127) (p := 9) (v := ?vo_w26) (w1 := (((((w24.setCell ⟨gb322, 0, none⟩ (.int .i64 ((rd_T127 l0 x12_1).f0))).setCell ⟨gb322, 1, none⟩ (.int .i64 ((rd_T127 l0 x12_1).f1))).setCell ⟨gb322, 2, none⟩ (.slice A321_2 ((rd_T127 l0 x12_1).f2).length c321_2)).setCell ⟨gb322, 3, none⟩ (.slice A321_3 ((rd_T127 l0 x12_1).f3).length c321_3)).setCell ⟨gb322, 4, none⟩ (.slice A321_4 ((rd_T127 l0 x12_1).f4).length c321_4))) ?hg ?ho ?hn ?hr ?_; (case ho => rfl); (case hg => rfl); (case hn => rfl); (case hr => first | (go_simp; done) | (go_simp; rfl)); intro w26 hw; have n0_ : Aside0 (Kd.V (Kd.int .i64) 3 w26 w.heap.size (fun k_ => (P1_ k_ ∨ w.heap.size ≤ k_) ∧ k_ ≠ gb322) u1 x1_1) := ⟨(by rw [hw]; exact (by (with_reducible repeat (first | apply Kd.V_alloc | apply Kd.V_drewN | apply Kd.V_drew)); exact Kd.V_mono (Kd.V_far (p := ⟨gb322, 4, none⟩) (Kd.V_far (p := ⟨gb322, 3, none⟩) (Kd.V_far (p := ⟨gb322, 2, none⟩) (Kd.V_far (p := ⟨gb322, 1, none⟩) (Kd.V_far (p := ⟨gb322, 0, none⟩) (Kd.V_mono HO_1.out (fun k_ hk => (⟨hk, hk.2⟩ : _ ∧ k_ ≠ gb322))) (fun _ hk => hk.2) (.int .i64 ((rd_T127 l0 x12_1).f0))) (fun _ hk => hk.2) (.int .i64 ((rd_T127 l0 x12_1).f1))) (fun _ hk => hk.2) (.slice A321_2 ((rd_T127 l0 x12_1).f2).length c321_2)) (fun _ hk => hk.2) (.slice A321_3 ((rd_T127 l0 x12_1).f3).length c321_3)) (fun _ hk => hk.2) (.slice A321_4 ((rd_T127 l0 x12_1).f4).length c321_4)) (fun _ hk => ⟨hk.1.1, hk.1.2⟩)))⟩; have n1_ : Aside0 (w26.heap[gb322]? = some (.cells #[.int .i64 ((rd_T127 l0 x12_1).f0), .int .i64 ((rd_T127 l0 x12_1).f1), .slice A321_2 ((rd_T127 l0 x12_1).f2).length c321_2, .slice A321_3 ((rd_T127 l0 x12_1).f3).length c321_3, .slice A321_4 ((rd_T127 l0 x12_1).f4).length c321_4] 127 (0, 0))) := ⟨(by rw [hw]; exact (by (with_reducible repeat (first | refine blk_drewN ?_ _ | refine blk_drew ?_ | refine blk_alloc ?_ _)); refine blk_put (cs := #[.int .i64 ((rd_T127 l0 x12_1).f0), .int .i64 ((rd_T127 l0 x12_1).f1), .slice A321_2 ((rd_T127 l0 x12_1).f2).length c321_2, .slice A321_3 ((rd_T127 l0 x12_1).f3).length c321_3, .slice none 0 0]) ?_ 4 _ rfl; (with_reducible repeat (first | refine blk_drewN ?_ _ | refine blk_drew ?_ | refine blk_alloc ?_ _)); refine blk_put (cs := #[.int .i64 ((rd_T127 l0 x12_1).f0), .int .i64 ((rd_T127 l0 x12_1).f1), .slice A321_2 ((rd_T127 l0 x12_1).f2).length c321_2, .slice none 0 0, .slice none 0 0]) ?_ 3 _ rfl; (with_reducible repeat (first | refine blk_drewN ?_ _ | refine blk_drew ?_ | refine blk_alloc ?_ _)); refine blk_put (cs := #[.int .i64 ((rd_T127 l0 x12_1).f0), .int .i64 ((rd_T127 l0 x12_1).f1), .slice none 0 0, .slice none 0 0, .slice none 0 0]) ?_ 2 _ rfl; (with_reducible repeat (first | refine blk_drewN ?_ _ | refine blk_drew ?_ | refine blk_alloc ?_ _)); refine blk_put (cs := #[.int .i64 ((rd_T127 l0 x12_1).f0), .int .i64 0, .slice none 0 0, .slice none 0 0, .slice none 0 0]) ?_ 1 _ rfl; (with_reducible repeat (first | refine blk_drewN ?_ _ | refine blk_drew ?_ | refine blk_alloc ?_ _)); refine blk_put (cs := #[.int .i64 0, .int .i64 0, .slice none 0 0, .slice none 0 0, .slice none 0 0]) ?_ 0 _ rfl; (with_reducible repeat (first | refine blk_drewN ?_ _ | refine blk_drew ?_ | refine blk_alloc ?_ _)); exact BK322.out))⟩; have n2_ : Aside0 (Below w.heap.size w w26) := ⟨(by rw [hw]; exact (by repeat (first | (with_reducible first | exact HB.out | apply below_alloc | apply pw_below_drewN | apply below_drew1 | refine below_set ?_ GE322.out) | exact HB.out)))⟩; clear hw; clear HO_1; clear BK322; clear HB; have HO_1 := n0_; have BK322 := n1_; have HB := n2_; clear n0_ n1_ n2_; have hcz27_0 : w26.cell? ⟨gb322, 0, none⟩ = some (.int .i64 ((rd_T127 l0 x12_1).f0)) := (blk_cell BK322.out 0).trans rfl; have hcz27_1 : w26.cell? ⟨gb322, 1, none⟩ = some (.int .i64 ((rd_T127 l0 x12_1).f1)) := (blk_cell BK322.out 1).trans rfl; have hcz27_2 : w26.cell? ⟨gb322, 2, none⟩ = some (.slice A321_2 ((rd_T127 l0 x12_1).f2).length c321_2) := (blk_cell BK322.out 2).trans rfl; have hcz27_3 : w26.cell? ⟨gb322, 3, none⟩ = some (.slice A321_3 ((rd_T127 l0 x12_1).f3).length c321_3) := (blk_cell BK322.out 3).trans rfl; have hcz27_4 : w26.cell? ⟨gb322, 4, none⟩ = some (.slice A321_4 ((rd_T127 l0 x12_1).f4).length c321_4) := (blk_cell BK322.out 4).trans rfl; have hfz27_0 := blk_frozen BK322.out 0; have hfz27_1 := blk_frozen BK322.out 1; have hfz27_2 := blk_frozen BK322.out 2; have hfz27_3 := blk_frozen BK322.out 3; have hfz27_4 := blk_frozen BK322.out 4; obtain ⟨Ao28, co28, eo28⟩ := Kd.V_slice HO_1.out; subst eo28; have p326 : 0 ≤ (((rd_T127 l0 x12_1).f1) : Int) := of_decide_eq_true (by first | (with_reducible assumption) | assumption); have q326 : ((rd_T127 l0 x12_1).f1) < (x1_1.length : Int) := of_decide_eq_true (by first | (with_reducible assumption) | assumption); obtain ⟨ad326, e326, hx326_0⟩ := Kd.at_int (Kd.V_reads' HO_1.out).2.2 ((rd_T127 l0 x12_1).f1) p326 q326; cases e326; replace p326 := eq_true p326; replace q326 := eq_true q326) | ((with_reducible refine gate_callee (f := 35) rfl ?_); refine goesL_ (some 45) rfl rfl Try.func35 (by kernel_rfl) rfl #[.slice A321_4 ((rd_T127 l0 x12_1).f4).length c321_4, .slice (some ad326) x1_1.length co28, .int .i64 x2_1] rfl (by (try simp only [List.map_toArray, List.map_cons, List.map_nil]); first | done | rfl | (simp only [List.length_drop, List.length_take]; rfl)) ?_; (with_reducible refine (ih k1 (by have := HK1.out; omega) _ _ ((rd_T127 l0 x12_1).f4) (fun k_ => ((P1_ k_ ∨ w.heap.size ≤ k_) ∧ k_ ≠ gb322)) _ _ x1_1 x2_1 t327 t330 _ ?side1 ?side2 ?side3 A22.out).mono ?_); (case side1 => repeat (first | exact (Kd.C_below HR321_4.out HB.out) | (with_reducible refine Kd.C_alloc ?_ _) | (with_reducible refine Kd.C_drewN ?_ _) | (with_reducible refine Kd.C_drew ?_))); (case side2 => exact HC321_4.out); (case side3 => exact HO_1.out); rintro e w29 ⟨v328, rfl, ho0, hb⟩; refine ⟨_, rfl, ?_⟩; have n0_ := Aside0.mk (Kd.V_below (by (with_reducible repeat (first | apply Kd.V_alloc | apply Kd.V_drewN | apply Kd.V_drew)); exact HO_1.out) hb); have n1_ := Aside0.mk (Kd.V_lower (Kd.V_mono (ok' := fun k_ => (P1_ k_ ∨ w.heap.size ≤ k_) ∧ k_ ≠ gb322) ho0 (fun k_ hk_ => ⟨Or.elim hk_ (fun hs_ => hs_.1) (fun hn_ => (.inr (Nat.le_trans (below_size (by repeat (first | (with_reducible first | exact HB.out | apply below_alloc | apply pw_below_drewN | apply below_drew1 | refine below_set ?_ GE322.out) | exact HB.out))) hn_))), Or.elim hk_ (fun hs_ => hs_.2) (fun hn_ => (Kd.freshB (g := gb322) (o := .cells #[.int .i64 ((rd_T127 l0 x12_1).f0), .int .i64 ((rd_T127 l0 x12_1).f1), .slice A321_2 ((rd_T127 l0 x12_1).f2).length c321_2, .slice A321_3 ((rd_T127 l0 x12_1).f3).length c321_3, .slice A321_4 ((rd_T127 l0 x12_1).f4).length c321_4] 127 (0, 0)) (by (with_reducible repeat (first | refine blk_drewN ?_ _ | refine blk_drew ?_ | refine blk_alloc ?_ _)); exact BK322.out) k_ hn_))⟩)) (below_size (by repeat (first | (with_reducible first | exact HB.out | apply below_alloc | apply pw_below_drewN | apply below_drew1 | refine below_set ?_ GE322.out) | exact HB.out)))); have n2_ := Aside0.mk (blk_below (g := gb322) (o := .cells #[.int .i64 ((rd_T127 l0 x12_1).f0), .int .i64 ((rd_T127 l0 x12_1).f1), .slice A321_2 ((rd_T127 l0 x12_1).f2).length c321_2, .slice A321_3 ((rd_T127 l0 x12_1).f3).length c321_3, .slice A321_4 ((rd_T127 l0 x12_1).f4).length c321_4] 127 (0, 0)) (by (with_reducible repeat (first | refine blk_drewN ?_ _ | refine blk_drew ?_ | refine blk_alloc ?_ _)); exact BK322.out) hb); have n3_ := Aside0.mk (below_step (by repeat (first | (with_reducible first | exact HB.out | apply below_alloc | apply pw_below_drewN | apply below_drew1 | refine below_set ?_ GE322.out) | exact HB.out)) hb); clear HO_1; clear BK322; clear HB; have HO_1 := n0_; have HO329 := n1_; have BK322 := n2_; have HB := n3_; clear n0_ n1_ n2_ n3_; (try clear hb); (try clear hb2); (try clear hk); (try clear hi); (try clear ho0)))
                        go_ret2
                        exact ⟨_, by first | rfl | (simp [errW_none, errW_some] <;> rfl) | (simp [*, errW_none, errW_some] <;> rfl), by (with_reducible repeat (first | apply Kd.V_alloc | apply Kd.V_drewN | apply Kd.V_drew)); exact Kd.V_mono HO329.out (fun _ hk => hk.1), by repeat (first | (with_reducible first | exact HB.out | apply below_alloc | apply pw_below_drewN | apply below_drew1 | refine below_set ?_ GE322.out) | exact HB.out)⟩
                      · rw [if_neg c23] at H
                        have c23b0 : decide (t330 < 0) = false := decide_eq_false c23
                        clear c23
                        have H' := Aside0.mk H
                        clear H
                        have p321 : 0 ≤ (x12_1 : Int) := of_decide_eq_true (by first | (with_reducible assumption) | assumption)
                        have q321 : x12_1 < (l0.length : Int) := of_decide_eq_true (by first | (with_reducible assumption) | assumption)
                        obtain ⟨ad321, A321_2, c321_2, A321_3, c321_3, A321_4, c321_4, e321, hx321_0, hx321_1, hx321_2, hx321_3, hx321_4, hl321_2, hi321_2, hl321_3, hi321_3, hl321_4, hi321_4⟩ := at_T127 HR0.out x12_1 p321 q321
                        cases e321
                        replace hx321_0 := (HB.out.cell (World.block_lt_of_cell? w _ hx321_0)).trans hx321_0
                        replace hx321_1 := (HB.out.cell (World.block_lt_of_cell? w _ hx321_1)).trans hx321_1
                        replace hx321_2 := (HB.out.cell (World.block_lt_of_cell? w _ hx321_2)).trans hx321_2
                        replace hx321_3 := (HB.out.cell (World.block_lt_of_cell? w _ hx321_3)).trans hx321_3
                        replace hx321_4 := (HB.out.cell (World.block_lt_of_cell? w _ hx321_4)).trans hx321_4
                        have HR321_2 := Aside0.mk hi321_2
                        have HC321_2 := Aside0.mk hl321_2
                        clear hi321_2 hl321_2
                        have HR321_3 := Aside0.mk hi321_3
                        have HC321_3 := Aside0.mk hl321_3
                        clear hi321_3 hl321_3
                        have HR321_4 := Aside0.mk hi321_4
                        have HC321_4 := Aside0.mk hl321_4
                        clear hi321_4 hl321_4
                        replace p321 := eq_true p321
                        replace q321 := eq_true q321
                        go_wp2_with (first | ((with_reducible refine gate_dst (N := 9) rfl ?_); refine box_event ?hg (N := 9) ?hd (cs := #[.int .i64 0, .int .i64 0, .slice none 0 0, .slice none 0 0, .slice none 0 0]) (t := 127) ?hr ?_; (case hd => rfl); (case hg => rfl); (case hr => first | (go_simp; done) | (go_simp; rfl)); intro gb322 hg w30 hbox hb; have n0_ := Aside0.mk (Kd.V_below (Kd.V_elderB (by (with_reducible repeat (first | apply Kd.V_alloc | apply Kd.V_drewN | apply Kd.V_drew)); exact HO_1.out) gb322 (Nat.le_of_eq hg.symm)) hb); have n1_ := Aside0.mk (below_step (by repeat (first | (with_reducible first | exact HB.out | apply below_alloc | apply pw_below_drewN | apply below_drew1) | exact HB.out)) hb); have n2_ := Aside0.mk (hbox); have n3_ := Aside0.mk ((by rw [hg]; exact (below_size (by repeat (first | (with_reducible first | exact HB.out | apply below_alloc | apply pw_below_drewN | apply below_drew1) | exact HB.out))) : w.heap.size ≤ gb322)); have n4_ := Aside0.mk ((by rw [hg]; exact (below_size (by repeat (first | (with_reducible first | exact HB.out | apply below_alloc | apply pw_below_drewN | apply below_drew1) | exact HB.out))) : w.heap.size ≤ gb322)); clear HO_1; clear HB; have HO_1 := n0_; have HB := n1_; have BK322 := n2_; have GW322 := n3_; have GE322 := n4_; clear n0_ n1_ n2_ n3_ n4_; clear hb hbox hg; have hcz31_0 : w30.cell? ⟨gb322, 0, none⟩ = some (.int .i64 0) := (blk_cell BK322.out 0).trans rfl; have hcz31_1 : w30.cell? ⟨gb322, 1, none⟩ = some (.int .i64 0) := (blk_cell BK322.out 1).trans rfl; have hcz31_2 : w30.cell? ⟨gb322, 2, none⟩ = some (.slice none 0 0) := (blk_cell BK322.out 2).trans rfl; have hcz31_3 : w30.cell? ⟨gb322, 3, none⟩ = some (.slice none 0 0) := (blk_cell BK322.out 3).trans rfl; have hcz31_4 : w30.cell? ⟨gb322, 4, none⟩ = some (.slice none 0 0) := (blk_cell BK322.out 4).trans rfl; have hfz31_0 := blk_frozen BK322.out 0; have hfz31_1 := blk_frozen BK322.out 1; have hfz31_2 := blk_frozen BK322.out 2; have hfz31_3 := blk_frozen BK322.out 3; have hfz31_4 := blk_frozen BK322.out 4) | ((with_reducible refine gate_store (t := 127) (p := 9) rfl ?_); refine store_event (t := 127) (p := 9) (v := ?vo_w32) (w1 := (((((w30.setCell ⟨gb322, 0, none⟩ (.int .i64 ((rd_T127 l0 x12_1).f0))).setCell ⟨gb322, 1, none⟩ (.int .i64 ((rd_T127 l0 x12_1).f1))).setCell ⟨gb322, 2, none⟩ (.slice A321_2 ((rd_T127 l0 x12_1).f2).length c321_2)).setCell ⟨gb322, 3, none⟩ (.slice A321_3 ((rd_T127 l0 x12_1).f3).length c321_3)).setCell ⟨gb322, 4, none⟩ (.slice A321_4 ((rd_T127 l0 x12_1).f4).length c321_4))) ?hg ?ho ?hn ?hr ?_; (case ho => rfl); (case hg => rfl); (case hn => rfl); (case hr => first | (go_simp; done) | (go_simp; rfl)); intro w32 hw; have n0_ : Aside0 (Kd.V (Kd.int .i64) 3 w32 w.heap.size (fun k_ => (P1_ k_ ∨ w.heap.size ≤ k_) ∧ k_ ≠ gb322) u1 x1_1) := ⟨(by rw [hw]; exact (by (with_reducible repeat (first | apply Kd.V_alloc | apply Kd.V_drewN | apply Kd.V_drew)); exact Kd.V_mono (Kd.V_far (p := ⟨gb322, 4, none⟩) (Kd.V_far (p := ⟨gb322, 3, none⟩) (Kd.V_far (p := ⟨gb322, 2, none⟩) (Kd.V_far (p := ⟨gb322, 1, none⟩) (Kd.V_far (p := ⟨gb322, 0, none⟩) (Kd.V_mono HO_1.out (fun k_ hk => (⟨hk, hk.2⟩ : _ ∧ k_ ≠ gb322))) (fun _ hk => hk.2) (.int .i64 ((rd_T127 l0 x12_1).f0))) (fun _ hk => hk.2) (.int .i64 ((rd_T127 l0 x12_1).f1))) (fun _ hk => hk.2) (.slice A321_2 ((rd_T127 l0 x12_1).f2).length c321_2)) (fun _ hk => hk.2) (.slice A321_3 ((rd_T127 l0 x12_1).f3).length c321_3)) (fun _ hk => hk.2) (.slice A321_4 ((rd_T127 l0 x12_1).f4).length c321_4)) (fun _ hk => ⟨hk.1.1, hk.1.2⟩)))⟩; have n1_ : Aside0 (w32.heap[gb322]? = some (.cells #[.int .i64 ((rd_T127 l0 x12_1).f0), .int .i64 ((rd_T127 l0 x12_1).f1), .slice A321_2 ((rd_T127 l0 x12_1).f2).length c321_2, .slice A321_3 ((rd_T127 l0 x12_1).f3).length c321_3, .slice A321_4 ((rd_T127 l0 x12_1).f4).length c321_4] 127 (0, 0))) := ⟨(by rw [hw]; exact (by (with_reducible repeat (first | refine blk_drewN ?_ _ | refine blk_drew ?_ | refine blk_alloc ?_ _)); refine blk_put (cs := #[.int .i64 ((rd_T127 l0 x12_1).f0), .int .i64 ((rd_T127 l0 x12_1).f1), .slice A321_2 ((rd_T127 l0 x12_1).f2).length c321_2, .slice A321_3 ((rd_T127 l0 x12_1).f3).length c321_3, .slice none 0 0]) ?_ 4 _ rfl; (with_reducible repeat (first | refine blk_drewN ?_ _ | refine blk_drew ?_ | refine blk_alloc ?_ _)); refine blk_put (cs := #[.int .i64 ((rd_T127 l0 x12_1).f0), .int .i64 ((rd_T127 l0 x12_1).f1), .slice A321_2 ((rd_T127 l0 x12_1).f2).length c321_2, .slice none 0 0, .slice none 0 0]) ?_ 3 _ rfl; (with_reducible repeat (first | refine blk_drewN ?_ _ | refine blk_drew ?_ | refine blk_alloc ?_ _)); refine blk_put (cs := #[.int .i64 ((rd_T127 l0 x12_1).f0), .int .i64 ((rd_T127 l0 x12_1).f1), .slice none 0 0, .slice none 0 0, .slice none 0 0]) ?_ 2 _ rfl; (with_reducible repeat (first | refine blk_drewN ?_ _ | refine blk_drew ?_ | refine blk_alloc ?_ _)); refine blk_put (cs := #[.int .i64 ((rd_T127 l0 x12_1).f0), .int .i64 0, .slice none 0 0, .slice none 0 0, .slice none 0 0]) ?_ 1 _ rfl; (with_reducible repeat (first | refine blk_drewN ?_ _ | refine blk_drew ?_ | refine blk_alloc ?_ _)); refine blk_put (cs := #[.int .i64 0, .int .i64 0, .slice none 0 0, .slice none 0 0, .slice none 0 0]) ?_ 0 _ rfl; (with_reducible repeat (first | refine blk_drewN ?_ _ | refine blk_drew ?_ | refine blk_alloc ?_ _)); exact BK322.out))⟩; have n2_ : Aside0 (Below w.heap.size w w32) := ⟨(by rw [hw]; exact (by repeat (first | (with_reducible first | exact HB.out | apply below_alloc | apply pw_below_drewN | apply below_drew1 | refine below_set ?_ GE322.out) | exact HB.out)))⟩; clear hw; clear HO_1; clear BK322; clear HB; have HO_1 := n0_; have BK322 := n1_; have HB := n2_; clear n0_ n1_ n2_; have hcz33_0 : w32.cell? ⟨gb322, 0, none⟩ = some (.int .i64 ((rd_T127 l0 x12_1).f0)) := (blk_cell BK322.out 0).trans rfl; have hcz33_1 : w32.cell? ⟨gb322, 1, none⟩ = some (.int .i64 ((rd_T127 l0 x12_1).f1)) := (blk_cell BK322.out 1).trans rfl; have hcz33_2 : w32.cell? ⟨gb322, 2, none⟩ = some (.slice A321_2 ((rd_T127 l0 x12_1).f2).length c321_2) := (blk_cell BK322.out 2).trans rfl; have hcz33_3 : w32.cell? ⟨gb322, 3, none⟩ = some (.slice A321_3 ((rd_T127 l0 x12_1).f3).length c321_3) := (blk_cell BK322.out 3).trans rfl; have hcz33_4 : w32.cell? ⟨gb322, 4, none⟩ = some (.slice A321_4 ((rd_T127 l0 x12_1).f4).length c321_4) := (blk_cell BK322.out 4).trans rfl; have hfz33_0 := blk_frozen BK322.out 0; have hfz33_1 := blk_frozen BK322.out 1; have hfz33_2 := blk_frozen BK322.out 2; have hfz33_3 := blk_frozen BK322.out 3; have hfz33_4 := blk_frozen BK322.out 4; obtain ⟨Ao34, co34, eo34⟩ := Kd.V_slice HO_1.out; subst eo34; have p326 : 0 ≤ (((rd_T127 l0 x12_1).f1) : Int) := of_decide_eq_true (by first | (with_reducible assumption) | assumption); have q326 : ((rd_T127 l0 x12_1).f1) < (x1_1.length : Int) := of_decide_eq_true (by first | (with_reducible assumption) | assumption); obtain ⟨ad326, e326, hx326_0⟩ := Kd.at_int (Kd.V_reads' HO_1.out).2.2 ((rd_T127 l0 x12_1).f1) p326 q326; cases e326; replace p326 := eq_true p326; replace q326 := eq_true q326) | ((with_reducible refine gate_callee (f := 35) rfl ?_); refine goesL_ (some 45) rfl rfl Try.func35 (by kernel_rfl) rfl #[.slice A321_4 ((rd_T127 l0 x12_1).f4).length c321_4, .slice (some ad326) x1_1.length co34, .int .i64 x2_1] rfl (by (try simp only [List.map_toArray, List.map_cons, List.map_nil]); first | done | rfl | (simp only [List.length_drop, List.length_take]; rfl)) ?_; (with_reducible refine (ih k1 (by have := HK1.out; omega) _ _ ((rd_T127 l0 x12_1).f4) (fun k_ => ((P1_ k_ ∨ w.heap.size ≤ k_) ∧ k_ ≠ gb322)) _ _ x1_1 x2_1 t327 t330 _ ?side1 ?side2 ?side3 A22.out).mono ?_); (case side1 => repeat (first | exact (Kd.C_below HR321_4.out HB.out) | (with_reducible refine Kd.C_alloc ?_ _) | (with_reducible refine Kd.C_drewN ?_ _) | (with_reducible refine Kd.C_drew ?_))); (case side2 => exact HC321_4.out); (case side3 => exact HO_1.out); rintro e w35 ⟨v328, rfl, ho0, hb⟩; refine ⟨_, rfl, ?_⟩; have n0_ := Aside0.mk (Kd.V_below (by (with_reducible repeat (first | apply Kd.V_alloc | apply Kd.V_drewN | apply Kd.V_drew)); exact HO_1.out) hb); have n1_ := Aside0.mk (Kd.V_lower (Kd.V_mono (ok' := fun k_ => (P1_ k_ ∨ w.heap.size ≤ k_) ∧ k_ ≠ gb322) ho0 (fun k_ hk_ => ⟨Or.elim hk_ (fun hs_ => hs_.1) (fun hn_ => (.inr (Nat.le_trans (below_size (by repeat (first | (with_reducible first | exact HB.out | apply below_alloc | apply pw_below_drewN | apply below_drew1 | refine below_set ?_ GE322.out) | exact HB.out))) hn_))), Or.elim hk_ (fun hs_ => hs_.2) (fun hn_ => (Kd.freshB (g := gb322) (o := .cells #[.int .i64 ((rd_T127 l0 x12_1).f0), .int .i64 ((rd_T127 l0 x12_1).f1), .slice A321_2 ((rd_T127 l0 x12_1).f2).length c321_2, .slice A321_3 ((rd_T127 l0 x12_1).f3).length c321_3, .slice A321_4 ((rd_T127 l0 x12_1).f4).length c321_4] 127 (0, 0)) (by (with_reducible repeat (first | refine blk_drewN ?_ _ | refine blk_drew ?_ | refine blk_alloc ?_ _)); exact BK322.out) k_ hn_))⟩)) (below_size (by repeat (first | (with_reducible first | exact HB.out | apply below_alloc | apply pw_below_drewN | apply below_drew1 | refine below_set ?_ GE322.out) | exact HB.out)))); have n2_ := Aside0.mk (blk_below (g := gb322) (o := .cells #[.int .i64 ((rd_T127 l0 x12_1).f0), .int .i64 ((rd_T127 l0 x12_1).f1), .slice A321_2 ((rd_T127 l0 x12_1).f2).length c321_2, .slice A321_3 ((rd_T127 l0 x12_1).f3).length c321_3, .slice A321_4 ((rd_T127 l0 x12_1).f4).length c321_4] 127 (0, 0)) (by (with_reducible repeat (first | refine blk_drewN ?_ _ | refine blk_drew ?_ | refine blk_alloc ?_ _)); exact BK322.out) hb); have n3_ := Aside0.mk (below_step (by repeat (first | (with_reducible first | exact HB.out | apply below_alloc | apply pw_below_drewN | apply below_drew1 | refine below_set ?_ GE322.out) | exact HB.out)) hb); clear HO_1; clear BK322; clear HB; have HO_1 := n0_; have HO329 := n1_; have BK322 := n2_; have HB := n3_; clear n0_ n1_ n2_ n3_; (try clear hb); (try clear hb2); (try clear hk); (try clear hi); (try clear ho0)))
                        go_roundg k1
                        case measure => have := HK1.out; omega
                        case rel => exact ⟨(t327), (t330), (wrap64 (x12_1 + 1)), (by first | rfl | (simp; done) | (simp [*]; done)), (by first | rfl | (simp; done) | (simp [*]; done)), H', ⟨by have := HK1.out; omega⟩, ⟨by (with_reducible repeat (first | apply Kd.V_alloc | apply Kd.V_drewN | apply Kd.V_drew)); exact Kd.V_mono HO329.out (fun _ hk => hk.1)⟩, ⟨by repeat (first | (with_reducible first | exact HB.out | apply below_alloc | apply pw_below_drewN | apply below_drew1 | refine below_set ?_ GE322.out) | exact HB.out)⟩⟩
                    · rw [if_neg c21] at H
                      have c21b0 : ((rd x1_1 ((rd_T127 l0 x12_1).f1)) == 0) = false := beq_eq_false_iff_ne.mpr c21
                      have c21b1 : ((rd x1_1 ((rd_T127 l0 x12_1).f1)) != 0) = true := bne_iff_ne.mpr c21
                      replace H := Option.bind_eq_some_iff.mp H
                      obtain ⟨⟨t331, t334⟩, A360, H⟩ := H
                      replace H : (if t334 < 0 then (some (t331, t334)) else (codemasonref_Shaped.l0 k1 t331 t334 l0 (l0.length : Int) (wrap64 (x12_1 + 1)))) = some (r1, r2) := H
                      have A36 := Aside0.mk A360
                      clear A360
                      by_cases c37 : t334 < 0
                      · rw [if_pos c37] at H
                        have c37b0 : decide (t334 < 0) = true := decide_eq_true c37
                        clear c37
                        simp only [Option.some.injEq, Prod.mk.injEq] at H
                        obtain ⟨rfl, rfl⟩ := H
                        have p321 : 0 ≤ (x12_1 : Int) := of_decide_eq_true (by first | (with_reducible assumption) | assumption)
                        have q321 : x12_1 < (l0.length : Int) := of_decide_eq_true (by first | (with_reducible assumption) | assumption)
                        obtain ⟨ad321, A321_2, c321_2, A321_3, c321_3, A321_4, c321_4, e321, hx321_0, hx321_1, hx321_2, hx321_3, hx321_4, hl321_2, hi321_2, hl321_3, hi321_3, hl321_4, hi321_4⟩ := at_T127 HR0.out x12_1 p321 q321
                        cases e321
                        replace hx321_0 := (HB.out.cell (World.block_lt_of_cell? w _ hx321_0)).trans hx321_0
                        replace hx321_1 := (HB.out.cell (World.block_lt_of_cell? w _ hx321_1)).trans hx321_1
                        replace hx321_2 := (HB.out.cell (World.block_lt_of_cell? w _ hx321_2)).trans hx321_2
                        replace hx321_3 := (HB.out.cell (World.block_lt_of_cell? w _ hx321_3)).trans hx321_3
                        replace hx321_4 := (HB.out.cell (World.block_lt_of_cell? w _ hx321_4)).trans hx321_4
                        have HR321_2 := Aside0.mk hi321_2
                        have HC321_2 := Aside0.mk hl321_2
                        clear hi321_2 hl321_2
                        have HR321_3 := Aside0.mk hi321_3
                        have HC321_3 := Aside0.mk hl321_3
                        clear hi321_3 hl321_3
                        have HR321_4 := Aside0.mk hi321_4
                        have HC321_4 := Aside0.mk hl321_4
                        clear hi321_4 hl321_4
                        replace p321 := eq_true p321
                        replace q321 := eq_true q321
                        go_wp2_with (first | ((with_reducible refine gate_dst (N := 9) rfl ?_); refine box_event ?hg (N := 9) ?hd (cs := #[.int .i64 0, .int .i64 0, .slice none 0 0, .slice none 0 0, .slice none 0 0]) (t := 127) ?hr ?_; (case hd => rfl); (case hg => rfl); (case hr => first | (go_simp; done) | (go_simp; rfl)); intro gb322 hg w38 hbox hb; have n0_ := Aside0.mk (Kd.V_below (Kd.V_elderB (by (with_reducible repeat (first | apply Kd.V_alloc | apply Kd.V_drewN | apply Kd.V_drew)); exact HO_1.out) gb322 (Nat.le_of_eq hg.symm)) hb); have n1_ := Aside0.mk (below_step (by repeat (first | (with_reducible first | exact HB.out | apply below_alloc | apply pw_below_drewN | apply below_drew1) | exact HB.out)) hb); have n2_ := Aside0.mk (hbox); have n3_ := Aside0.mk ((by rw [hg]; exact (below_size (by repeat (first | (with_reducible first | exact HB.out | apply below_alloc | apply pw_below_drewN | apply below_drew1) | exact HB.out))) : w.heap.size ≤ gb322)); have n4_ := Aside0.mk ((by rw [hg]; exact (below_size (by repeat (first | (with_reducible first | exact HB.out | apply below_alloc | apply pw_below_drewN | apply below_drew1) | exact HB.out))) : w.heap.size ≤ gb322)); clear HO_1; clear HB; have HO_1 := n0_; have HB := n1_; have BK322 := n2_; have GW322 := n3_; have GE322 := n4_; clear n0_ n1_ n2_ n3_ n4_; clear hb hbox hg; have hcz39_0 : w38.cell? ⟨gb322, 0, none⟩ = some (.int .i64 0) := (blk_cell BK322.out 0).trans rfl; have hcz39_1 : w38.cell? ⟨gb322, 1, none⟩ = some (.int .i64 0) := (blk_cell BK322.out 1).trans rfl; have hcz39_2 : w38.cell? ⟨gb322, 2, none⟩ = some (.slice none 0 0) := (blk_cell BK322.out 2).trans rfl; have hcz39_3 : w38.cell? ⟨gb322, 3, none⟩ = some (.slice none 0 0) := (blk_cell BK322.out 3).trans rfl; have hcz39_4 : w38.cell? ⟨gb322, 4, none⟩ = some (.slice none 0 0) := (blk_cell BK322.out 4).trans rfl; have hfz39_0 := blk_frozen BK322.out 0; have hfz39_1 := blk_frozen BK322.out 1; have hfz39_2 := blk_frozen BK322.out 2; have hfz39_3 := blk_frozen BK322.out 3; have hfz39_4 := blk_frozen BK322.out 4) | ((with_reducible refine gate_store (t := 127) (p := 9) rfl ?_); refine store_event (t := 127) (p := 9) (v := ?vo_w40) (w1 := (((((w38.setCell ⟨gb322, 0, none⟩ (.int .i64 ((rd_T127 l0 x12_1).f0))).setCell ⟨gb322, 1, none⟩ (.int .i64 ((rd_T127 l0 x12_1).f1))).setCell ⟨gb322, 2, none⟩ (.slice A321_2 ((rd_T127 l0 x12_1).f2).length c321_2)).setCell ⟨gb322, 3, none⟩ (.slice A321_3 ((rd_T127 l0 x12_1).f3).length c321_3)).setCell ⟨gb322, 4, none⟩ (.slice A321_4 ((rd_T127 l0 x12_1).f4).length c321_4))) ?hg ?ho ?hn ?hr ?_; (case ho => rfl); (case hg => rfl); (case hn => rfl); (case hr => first | (go_simp; done) | (go_simp; rfl)); intro w40 hw; have n0_ : Aside0 (Kd.V (Kd.int .i64) 3 w40 w.heap.size (fun k_ => (P1_ k_ ∨ w.heap.size ≤ k_) ∧ k_ ≠ gb322) u1 x1_1) := ⟨(by rw [hw]; exact (by (with_reducible repeat (first | apply Kd.V_alloc | apply Kd.V_drewN | apply Kd.V_drew)); exact Kd.V_mono (Kd.V_far (p := ⟨gb322, 4, none⟩) (Kd.V_far (p := ⟨gb322, 3, none⟩) (Kd.V_far (p := ⟨gb322, 2, none⟩) (Kd.V_far (p := ⟨gb322, 1, none⟩) (Kd.V_far (p := ⟨gb322, 0, none⟩) (Kd.V_mono HO_1.out (fun k_ hk => (⟨hk, hk.2⟩ : _ ∧ k_ ≠ gb322))) (fun _ hk => hk.2) (.int .i64 ((rd_T127 l0 x12_1).f0))) (fun _ hk => hk.2) (.int .i64 ((rd_T127 l0 x12_1).f1))) (fun _ hk => hk.2) (.slice A321_2 ((rd_T127 l0 x12_1).f2).length c321_2)) (fun _ hk => hk.2) (.slice A321_3 ((rd_T127 l0 x12_1).f3).length c321_3)) (fun _ hk => hk.2) (.slice A321_4 ((rd_T127 l0 x12_1).f4).length c321_4)) (fun _ hk => ⟨hk.1.1, hk.1.2⟩)))⟩; have n1_ : Aside0 (w40.heap[gb322]? = some (.cells #[.int .i64 ((rd_T127 l0 x12_1).f0), .int .i64 ((rd_T127 l0 x12_1).f1), .slice A321_2 ((rd_T127 l0 x12_1).f2).length c321_2, .slice A321_3 ((rd_T127 l0 x12_1).f3).length c321_3, .slice A321_4 ((rd_T127 l0 x12_1).f4).length c321_4] 127 (0, 0))) := ⟨(by rw [hw]; exact (by (with_reducible repeat (first | refine blk_drewN ?_ _ | refine blk_drew ?_ | refine blk_alloc ?_ _)); refine blk_put (cs := #[.int .i64 ((rd_T127 l0 x12_1).f0), .int .i64 ((rd_T127 l0 x12_1).f1), .slice A321_2 ((rd_T127 l0 x12_1).f2).length c321_2, .slice A321_3 ((rd_T127 l0 x12_1).f3).length c321_3, .slice none 0 0]) ?_ 4 _ rfl; (with_reducible repeat (first | refine blk_drewN ?_ _ | refine blk_drew ?_ | refine blk_alloc ?_ _)); refine blk_put (cs := #[.int .i64 ((rd_T127 l0 x12_1).f0), .int .i64 ((rd_T127 l0 x12_1).f1), .slice A321_2 ((rd_T127 l0 x12_1).f2).length c321_2, .slice none 0 0, .slice none 0 0]) ?_ 3 _ rfl; (with_reducible repeat (first | refine blk_drewN ?_ _ | refine blk_drew ?_ | refine blk_alloc ?_ _)); refine blk_put (cs := #[.int .i64 ((rd_T127 l0 x12_1).f0), .int .i64 ((rd_T127 l0 x12_1).f1), .slice none 0 0, .slice none 0 0, .slice none 0 0]) ?_ 2 _ rfl; (with_reducible repeat (first | refine blk_drewN ?_ _ | refine blk_drew ?_ | refine blk_alloc ?_ _)); refine blk_put (cs := #[.int .i64 ((rd_T127 l0 x12_1).f0), .int .i64 0, .slice none 0 0, .slice none 0 0, .slice none 0 0]) ?_ 1 _ rfl; (with_reducible repeat (first | refine blk_drewN ?_ _ | refine blk_drew ?_ | refine blk_alloc ?_ _)); refine blk_put (cs := #[.int .i64 0, .int .i64 0, .slice none 0 0, .slice none 0 0, .slice none 0 0]) ?_ 0 _ rfl; (with_reducible repeat (first | refine blk_drewN ?_ _ | refine blk_drew ?_ | refine blk_alloc ?_ _)); exact BK322.out))⟩; have n2_ : Aside0 (Below w.heap.size w w40) := ⟨(by rw [hw]; exact (by repeat (first | (with_reducible first | exact HB.out | apply below_alloc | apply pw_below_drewN | apply below_drew1 | refine below_set ?_ GE322.out) | exact HB.out)))⟩; clear hw; clear HO_1; clear BK322; clear HB; have HO_1 := n0_; have BK322 := n1_; have HB := n2_; clear n0_ n1_ n2_; have hcz41_0 : w40.cell? ⟨gb322, 0, none⟩ = some (.int .i64 ((rd_T127 l0 x12_1).f0)) := (blk_cell BK322.out 0).trans rfl; have hcz41_1 : w40.cell? ⟨gb322, 1, none⟩ = some (.int .i64 ((rd_T127 l0 x12_1).f1)) := (blk_cell BK322.out 1).trans rfl; have hcz41_2 : w40.cell? ⟨gb322, 2, none⟩ = some (.slice A321_2 ((rd_T127 l0 x12_1).f2).length c321_2) := (blk_cell BK322.out 2).trans rfl; have hcz41_3 : w40.cell? ⟨gb322, 3, none⟩ = some (.slice A321_3 ((rd_T127 l0 x12_1).f3).length c321_3) := (blk_cell BK322.out 3).trans rfl; have hcz41_4 : w40.cell? ⟨gb322, 4, none⟩ = some (.slice A321_4 ((rd_T127 l0 x12_1).f4).length c321_4) := (blk_cell BK322.out 4).trans rfl; have hfz41_0 := blk_frozen BK322.out 0; have hfz41_1 := blk_frozen BK322.out 1; have hfz41_2 := blk_frozen BK322.out 2; have hfz41_3 := blk_frozen BK322.out 3; have hfz41_4 := blk_frozen BK322.out 4; obtain ⟨Ao42, co42, eo42⟩ := Kd.V_slice HO_1.out; subst eo42; have p326 : 0 ≤ (((rd_T127 l0 x12_1).f1) : Int) := of_decide_eq_true (by first | (with_reducible assumption) | assumption); have q326 : ((rd_T127 l0 x12_1).f1) < (x1_1.length : Int) := of_decide_eq_true (by first | (with_reducible assumption) | assumption); obtain ⟨ad326, e326, hx326_0⟩ := Kd.at_int (Kd.V_reads' HO_1.out).2.2 ((rd_T127 l0 x12_1).f1) p326 q326; cases e326; replace p326 := eq_true p326; replace q326 := eq_true q326) | ((with_reducible refine gate_callee (f := 35) rfl ?_); refine goesL_ (some 37) rfl rfl Try.func35 (by kernel_rfl) rfl #[.slice A321_3 ((rd_T127 l0 x12_1).f3).length c321_3, .slice (some ad326) x1_1.length co42, .int .i64 x2_1] rfl (by (try simp only [List.map_toArray, List.map_cons, List.map_nil]); first | done | rfl | (simp only [List.length_drop, List.length_take]; rfl)) ?_; (with_reducible refine (ih k1 (by have := HK1.out; omega) _ _ ((rd_T127 l0 x12_1).f3) (fun k_ => ((P1_ k_ ∨ w.heap.size ≤ k_) ∧ k_ ≠ gb322)) _ _ x1_1 x2_1 t331 t334 _ ?side1 ?side2 ?side3 A36.out).mono ?_); (case side1 => repeat (first | exact (Kd.C_below HR321_3.out HB.out) | (with_reducible refine Kd.C_alloc ?_ _) | (with_reducible refine Kd.C_drewN ?_ _) | (with_reducible refine Kd.C_drew ?_))); (case side2 => exact HC321_3.out); (case side3 => exact HO_1.out); rintro e w43 ⟨v332, rfl, ho0, hb⟩; refine ⟨_, rfl, ?_⟩; have n0_ := Aside0.mk (Kd.V_below (by (with_reducible repeat (first | apply Kd.V_alloc | apply Kd.V_drewN | apply Kd.V_drew)); exact HO_1.out) hb); have n1_ := Aside0.mk (Kd.V_lower (Kd.V_mono (ok' := fun k_ => (P1_ k_ ∨ w.heap.size ≤ k_) ∧ k_ ≠ gb322) ho0 (fun k_ hk_ => ⟨Or.elim hk_ (fun hs_ => hs_.1) (fun hn_ => (.inr (Nat.le_trans (below_size (by repeat (first | (with_reducible first | exact HB.out | apply below_alloc | apply pw_below_drewN | apply below_drew1 | refine below_set ?_ GE322.out) | exact HB.out))) hn_))), Or.elim hk_ (fun hs_ => hs_.2) (fun hn_ => (Kd.freshB (g := gb322) (o := .cells #[.int .i64 ((rd_T127 l0 x12_1).f0), .int .i64 ((rd_T127 l0 x12_1).f1), .slice A321_2 ((rd_T127 l0 x12_1).f2).length c321_2, .slice A321_3 ((rd_T127 l0 x12_1).f3).length c321_3, .slice A321_4 ((rd_T127 l0 x12_1).f4).length c321_4] 127 (0, 0)) (by (with_reducible repeat (first | refine blk_drewN ?_ _ | refine blk_drew ?_ | refine blk_alloc ?_ _)); exact BK322.out) k_ hn_))⟩)) (below_size (by repeat (first | (with_reducible first | exact HB.out | apply below_alloc | apply pw_below_drewN | apply below_drew1 | refine below_set ?_ GE322.out) | exact HB.out)))); have n2_ := Aside0.mk (blk_below (g := gb322) (o := .cells #[.int .i64 ((rd_T127 l0 x12_1).f0), .int .i64 ((rd_T127 l0 x12_1).f1), .slice A321_2 ((rd_T127 l0 x12_1).f2).length c321_2, .slice A321_3 ((rd_T127 l0 x12_1).f3).length c321_3, .slice A321_4 ((rd_T127 l0 x12_1).f4).length c321_4] 127 (0, 0)) (by (with_reducible repeat (first | refine blk_drewN ?_ _ | refine blk_drew ?_ | refine blk_alloc ?_ _)); exact BK322.out) hb); have n3_ := Aside0.mk (below_step (by repeat (first | (with_reducible first | exact HB.out | apply below_alloc | apply pw_below_drewN | apply below_drew1 | refine below_set ?_ GE322.out) | exact HB.out)) hb); clear HO_1; clear BK322; clear HB; have HO_1 := n0_; have HO333 := n1_; have BK322 := n2_; have HB := n3_; clear n0_ n1_ n2_ n3_; (try clear hb); (try clear hb2); (try clear hk); (try clear hi); (try clear ho0)))
                        go_ret2
                        exact ⟨_, by first | rfl | (simp [errW_none, errW_some] <;> rfl) | (simp [*, errW_none, errW_some] <;> rfl), by (with_reducible repeat (first | apply Kd.V_alloc | apply Kd.V_drewN | apply Kd.V_drew)); exact Kd.V_mono HO333.out (fun _ hk => hk.1), by repeat (first | (with_reducible first | exact HB.out | apply below_alloc | apply pw_below_drewN | apply below_drew1 | refine below_set ?_ GE322.out) | exact HB.out)⟩
                      · rw [if_neg c37] at H
                        have c37b0 : decide (t334 < 0) = false := decide_eq_false c37
                        clear c37
                        have H' := Aside0.mk H
                        clear H
                        have p321 : 0 ≤ (x12_1 : Int) := of_decide_eq_true (by first | (with_reducible assumption) | assumption)
                        have q321 : x12_1 < (l0.length : Int) := of_decide_eq_true (by first | (with_reducible assumption) | assumption)
                        obtain ⟨ad321, A321_2, c321_2, A321_3, c321_3, A321_4, c321_4, e321, hx321_0, hx321_1, hx321_2, hx321_3, hx321_4, hl321_2, hi321_2, hl321_3, hi321_3, hl321_4, hi321_4⟩ := at_T127 HR0.out x12_1 p321 q321
                        cases e321
                        replace hx321_0 := (HB.out.cell (World.block_lt_of_cell? w _ hx321_0)).trans hx321_0
                        replace hx321_1 := (HB.out.cell (World.block_lt_of_cell? w _ hx321_1)).trans hx321_1
                        replace hx321_2 := (HB.out.cell (World.block_lt_of_cell? w _ hx321_2)).trans hx321_2
                        replace hx321_3 := (HB.out.cell (World.block_lt_of_cell? w _ hx321_3)).trans hx321_3
                        replace hx321_4 := (HB.out.cell (World.block_lt_of_cell? w _ hx321_4)).trans hx321_4
                        have HR321_2 := Aside0.mk hi321_2
                        have HC321_2 := Aside0.mk hl321_2
                        clear hi321_2 hl321_2
                        have HR321_3 := Aside0.mk hi321_3
                        have HC321_3 := Aside0.mk hl321_3
                        clear hi321_3 hl321_3
                        have HR321_4 := Aside0.mk hi321_4
                        have HC321_4 := Aside0.mk hl321_4
                        clear hi321_4 hl321_4
                        replace p321 := eq_true p321
                        replace q321 := eq_true q321
                        go_wp2_with (first | ((with_reducible refine gate_dst (N := 9) rfl ?_); refine box_event ?hg (N := 9) ?hd (cs := #[.int .i64 0, .int .i64 0, .slice none 0 0, .slice none 0 0, .slice none 0 0]) (t := 127) ?hr ?_; (case hd => rfl); (case hg => rfl); (case hr => first | (go_simp; done) | (go_simp; rfl)); intro gb322 hg w44 hbox hb; have n0_ := Aside0.mk (Kd.V_below (Kd.V_elderB (by (with_reducible repeat (first | apply Kd.V_alloc | apply Kd.V_drewN | apply Kd.V_drew)); exact HO_1.out) gb322 (Nat.le_of_eq hg.symm)) hb); have n1_ := Aside0.mk (below_step (by repeat (first | (with_reducible first | exact HB.out | apply below_alloc | apply pw_below_drewN | apply below_drew1) | exact HB.out)) hb); have n2_ := Aside0.mk (hbox); have n3_ := Aside0.mk ((by rw [hg]; exact (below_size (by repeat (first | (with_reducible first | exact HB.out | apply below_alloc | apply pw_below_drewN | apply below_drew1) | exact HB.out))) : w.heap.size ≤ gb322)); have n4_ := Aside0.mk ((by rw [hg]; exact (below_size (by repeat (first | (with_reducible first | exact HB.out | apply below_alloc | apply pw_below_drewN | apply below_drew1) | exact HB.out))) : w.heap.size ≤ gb322)); clear HO_1; clear HB; have HO_1 := n0_; have HB := n1_; have BK322 := n2_; have GW322 := n3_; have GE322 := n4_; clear n0_ n1_ n2_ n3_ n4_; clear hb hbox hg; have hcz45_0 : w44.cell? ⟨gb322, 0, none⟩ = some (.int .i64 0) := (blk_cell BK322.out 0).trans rfl; have hcz45_1 : w44.cell? ⟨gb322, 1, none⟩ = some (.int .i64 0) := (blk_cell BK322.out 1).trans rfl; have hcz45_2 : w44.cell? ⟨gb322, 2, none⟩ = some (.slice none 0 0) := (blk_cell BK322.out 2).trans rfl; have hcz45_3 : w44.cell? ⟨gb322, 3, none⟩ = some (.slice none 0 0) := (blk_cell BK322.out 3).trans rfl; have hcz45_4 : w44.cell? ⟨gb322, 4, none⟩ = some (.slice none 0 0) := (blk_cell BK322.out 4).trans rfl; have hfz45_0 := blk_frozen BK322.out 0; have hfz45_1 := blk_frozen BK322.out 1; have hfz45_2 := blk_frozen BK322.out 2; have hfz45_3 := blk_frozen BK322.out 3; have hfz45_4 := blk_frozen BK322.out 4) | ((with_reducible refine gate_store (t := 127) (p := 9) rfl ?_); refine store_event (t := 127) (p := 9) (v := ?vo_w46) (w1 := (((((w44.setCell ⟨gb322, 0, none⟩ (.int .i64 ((rd_T127 l0 x12_1).f0))).setCell ⟨gb322, 1, none⟩ (.int .i64 ((rd_T127 l0 x12_1).f1))).setCell ⟨gb322, 2, none⟩ (.slice A321_2 ((rd_T127 l0 x12_1).f2).length c321_2)).setCell ⟨gb322, 3, none⟩ (.slice A321_3 ((rd_T127 l0 x12_1).f3).length c321_3)).setCell ⟨gb322, 4, none⟩ (.slice A321_4 ((rd_T127 l0 x12_1).f4).length c321_4))) ?hg ?ho ?hn ?hr ?_; (case ho => rfl); (case hg => rfl); (case hn => rfl); (case hr => first | (go_simp; done) | (go_simp; rfl)); intro w46 hw; have n0_ : Aside0 (Kd.V (Kd.int .i64) 3 w46 w.heap.size (fun k_ => (P1_ k_ ∨ w.heap.size ≤ k_) ∧ k_ ≠ gb322) u1 x1_1) := ⟨(by rw [hw]; exact (by (with_reducible repeat (first | apply Kd.V_alloc | apply Kd.V_drewN | apply Kd.V_drew)); exact Kd.V_mono (Kd.V_far (p := ⟨gb322, 4, none⟩) (Kd.V_far (p := ⟨gb322, 3, none⟩) (Kd.V_far (p := ⟨gb322, 2, none⟩) (Kd.V_far (p := ⟨gb322, 1, none⟩) (Kd.V_far (p := ⟨gb322, 0, none⟩) (Kd.V_mono HO_1.out (fun k_ hk => (⟨hk, hk.2⟩ : _ ∧ k_ ≠ gb322))) (fun _ hk => hk.2) (.int .i64 ((rd_T127 l0 x12_1).f0))) (fun _ hk => hk.2) (.int .i64 ((rd_T127 l0 x12_1).f1))) (fun _ hk => hk.2) (.slice A321_2 ((rd_T127 l0 x12_1).f2).length c321_2)) (fun _ hk => hk.2) (.slice A321_3 ((rd_T127 l0 x12_1).f3).length c321_3)) (fun _ hk => hk.2) (.slice A321_4 ((rd_T127 l0 x12_1).f4).length c321_4)) (fun _ hk => ⟨hk.1.1, hk.1.2⟩)))⟩; have n1_ : Aside0 (w46.heap[gb322]? = some (.cells #[.int .i64 ((rd_T127 l0 x12_1).f0), .int .i64 ((rd_T127 l0 x12_1).f1), .slice A321_2 ((rd_T127 l0 x12_1).f2).length c321_2, .slice A321_3 ((rd_T127 l0 x12_1).f3).length c321_3, .slice A321_4 ((rd_T127 l0 x12_1).f4).length c321_4] 127 (0, 0))) := ⟨(by rw [hw]; exact (by (with_reducible repeat (first | refine blk_drewN ?_ _ | refine blk_drew ?_ | refine blk_alloc ?_ _)); refine blk_put (cs := #[.int .i64 ((rd_T127 l0 x12_1).f0), .int .i64 ((rd_T127 l0 x12_1).f1), .slice A321_2 ((rd_T127 l0 x12_1).f2).length c321_2, .slice A321_3 ((rd_T127 l0 x12_1).f3).length c321_3, .slice none 0 0]) ?_ 4 _ rfl; (with_reducible repeat (first | refine blk_drewN ?_ _ | refine blk_drew ?_ | refine blk_alloc ?_ _)); refine blk_put (cs := #[.int .i64 ((rd_T127 l0 x12_1).f0), .int .i64 ((rd_T127 l0 x12_1).f1), .slice A321_2 ((rd_T127 l0 x12_1).f2).length c321_2, .slice none 0 0, .slice none 0 0]) ?_ 3 _ rfl; (with_reducible repeat (first | refine blk_drewN ?_ _ | refine blk_drew ?_ | refine blk_alloc ?_ _)); refine blk_put (cs := #[.int .i64 ((rd_T127 l0 x12_1).f0), .int .i64 ((rd_T127 l0 x12_1).f1), .slice none 0 0, .slice none 0 0, .slice none 0 0]) ?_ 2 _ rfl; (with_reducible repeat (first | refine blk_drewN ?_ _ | refine blk_drew ?_ | refine blk_alloc ?_ _)); refine blk_put (cs := #[.int .i64 ((rd_T127 l0 x12_1).f0), .int .i64 0, .slice none 0 0, .slice none 0 0, .slice none 0 0]) ?_ 1 _ rfl; (with_reducible repeat (first | refine blk_drewN ?_ _ | refine blk_drew ?_ | refine blk_alloc ?_ _)); refine blk_put (cs := #[.int .i64 0, .int .i64 0, .slice none 0 0, .slice none 0 0, .slice none 0 0]) ?_ 0 _ rfl; (with_reducible repeat (first | refine blk_drewN ?_ _ | refine blk_drew ?_ | refine blk_alloc ?_ _)); exact BK322.out))⟩; have n2_ : Aside0 (Below w.heap.size w w46) := ⟨(by rw [hw]; exact (by repeat (first | (with_reducible first | exact HB.out | apply below_alloc | apply pw_below_drewN | apply below_drew1 | refine below_set ?_ GE322.out) | exact HB.out)))⟩; clear hw; clear HO_1; clear BK322; clear HB; have HO_1 := n0_; have BK322 := n1_; have HB := n2_; clear n0_ n1_ n2_; have hcz47_0 : w46.cell? ⟨gb322, 0, none⟩ = some (.int .i64 ((rd_T127 l0 x12_1).f0)) := (blk_cell BK322.out 0).trans rfl; have hcz47_1 : w46.cell? ⟨gb322, 1, none⟩ = some (.int .i64 ((rd_T127 l0 x12_1).f1)) := (blk_cell BK322.out 1).trans rfl; have hcz47_2 : w46.cell? ⟨gb322, 2, none⟩ = some (.slice A321_2 ((rd_T127 l0 x12_1).f2).length c321_2) := (blk_cell BK322.out 2).trans rfl; have hcz47_3 : w46.cell? ⟨gb322, 3, none⟩ = some (.slice A321_3 ((rd_T127 l0 x12_1).f3).length c321_3) := (blk_cell BK322.out 3).trans rfl; have hcz47_4 : w46.cell? ⟨gb322, 4, none⟩ = some (.slice A321_4 ((rd_T127 l0 x12_1).f4).length c321_4) := (blk_cell BK322.out 4).trans rfl; have hfz47_0 := blk_frozen BK322.out 0; have hfz47_1 := blk_frozen BK322.out 1; have hfz47_2 := blk_frozen BK322.out 2; have hfz47_3 := blk_frozen BK322.out 3; have hfz47_4 := blk_frozen BK322.out 4; obtain ⟨Ao48, co48, eo48⟩ := Kd.V_slice HO_1.out; subst eo48; have p326 : 0 ≤ (((rd_T127 l0 x12_1).f1) : Int) := of_decide_eq_true (by first | (with_reducible assumption) | assumption); have q326 : ((rd_T127 l0 x12_1).f1) < (x1_1.length : Int) := of_decide_eq_true (by first | (with_reducible assumption) | assumption); obtain ⟨ad326, e326, hx326_0⟩ := Kd.at_int (Kd.V_reads' HO_1.out).2.2 ((rd_T127 l0 x12_1).f1) p326 q326; cases e326; replace p326 := eq_true p326; replace q326 := eq_true q326) | ((with_reducible refine gate_callee (f := 35) rfl ?_); refine goesL_ (some 37) rfl rfl Try.func35 (by kernel_rfl) rfl #[.slice A321_3 ((rd_T127 l0 x12_1).f3).length c321_3, .slice (some ad326) x1_1.length co48, .int .i64 x2_1] rfl (by (try simp only [List.map_toArray, List.map_cons, List.map_nil]); first | done | rfl | (simp only [List.length_drop, List.length_take]; rfl)) ?_; (with_reducible refine (ih k1 (by have := HK1.out; omega) _ _ ((rd_T127 l0 x12_1).f3) (fun k_ => ((P1_ k_ ∨ w.heap.size ≤ k_) ∧ k_ ≠ gb322)) _ _ x1_1 x2_1 t331 t334 _ ?side1 ?side2 ?side3 A36.out).mono ?_); (case side1 => repeat (first | exact (Kd.C_below HR321_3.out HB.out) | (with_reducible refine Kd.C_alloc ?_ _) | (with_reducible refine Kd.C_drewN ?_ _) | (with_reducible refine Kd.C_drew ?_))); (case side2 => exact HC321_3.out); (case side3 => exact HO_1.out); rintro e w49 ⟨v332, rfl, ho0, hb⟩; refine ⟨_, rfl, ?_⟩; have n0_ := Aside0.mk (Kd.V_below (by (with_reducible repeat (first | apply Kd.V_alloc | apply Kd.V_drewN | apply Kd.V_drew)); exact HO_1.out) hb); have n1_ := Aside0.mk (Kd.V_lower (Kd.V_mono (ok' := fun k_ => (P1_ k_ ∨ w.heap.size ≤ k_) ∧ k_ ≠ gb322) ho0 (fun k_ hk_ => ⟨Or.elim hk_ (fun hs_ => hs_.1) (fun hn_ => (.inr (Nat.le_trans (below_size (by repeat (first | (with_reducible first | exact HB.out | apply below_alloc | apply pw_below_drewN | apply below_drew1 | refine below_set ?_ GE322.out) | exact HB.out))) hn_))), Or.elim hk_ (fun hs_ => hs_.2) (fun hn_ => (Kd.freshB (g := gb322) (o := .cells #[.int .i64 ((rd_T127 l0 x12_1).f0), .int .i64 ((rd_T127 l0 x12_1).f1), .slice A321_2 ((rd_T127 l0 x12_1).f2).length c321_2, .slice A321_3 ((rd_T127 l0 x12_1).f3).length c321_3, .slice A321_4 ((rd_T127 l0 x12_1).f4).length c321_4] 127 (0, 0)) (by (with_reducible repeat (first | refine blk_drewN ?_ _ | refine blk_drew ?_ | refine blk_alloc ?_ _)); exact BK322.out) k_ hn_))⟩)) (below_size (by repeat (first | (with_reducible first | exact HB.out | apply below_alloc | apply pw_below_drewN | apply below_drew1 | refine below_set ?_ GE322.out) | exact HB.out)))); have n2_ := Aside0.mk (blk_below (g := gb322) (o := .cells #[.int .i64 ((rd_T127 l0 x12_1).f0), .int .i64 ((rd_T127 l0 x12_1).f1), .slice A321_2 ((rd_T127 l0 x12_1).f2).length c321_2, .slice A321_3 ((rd_T127 l0 x12_1).f3).length c321_3, .slice A321_4 ((rd_T127 l0 x12_1).f4).length c321_4] 127 (0, 0)) (by (with_reducible repeat (first | refine blk_drewN ?_ _ | refine blk_drew ?_ | refine blk_alloc ?_ _)); exact BK322.out) hb); have n3_ := Aside0.mk (below_step (by repeat (first | (with_reducible first | exact HB.out | apply below_alloc | apply pw_below_drewN | apply below_drew1 | refine below_set ?_ GE322.out) | exact HB.out)) hb); clear HO_1; clear BK322; clear HB; have HO_1 := n0_; have HO333 := n1_; have BK322 := n2_; have HB := n3_; clear n0_ n1_ n2_ n3_; (try clear hb); (try clear hb2); (try clear hk); (try clear hi); (try clear ho0)))
                        go_roundg k1
                        case measure => have := HK1.out; omega
                        case rel => exact ⟨(t331), (t334), (wrap64 (x12_1 + 1)), (by first | rfl | (simp; done) | (simp [*]; done)), (by first | rfl | (simp; done) | (simp [*]; done)), H', ⟨by have := HK1.out; omega⟩, ⟨by (with_reducible repeat (first | apply Kd.V_alloc | apply Kd.V_drewN | apply Kd.V_drew)); exact Kd.V_mono HO333.out (fun _ hk => hk.1)⟩, ⟨by repeat (first | (with_reducible first | exact HB.out | apply below_alloc | apply pw_below_drewN | apply below_drew1 | refine below_set ?_ GE322.out) | exact HB.out)⟩⟩
                  · rw [if_neg c20] at H
                    exact absurd H (by simp)
                · rw [if_neg c19] at H
                  exact absurd H (by simp)
              · rw [if_neg c18] at H
                have c18b0 : (((rd_T127 l0 x12_1).f0) == 2) = false := beq_eq_false_iff_ne.mpr c18
                have c18b1 : (((rd_T127 l0 x12_1).f0) != 2) = true := bne_iff_ne.mpr c18
                by_cases c50 : ((rd_T127 l0 x12_1).f0) = 3
                · rw [if_pos c50] at H
                  have c50b0 : (((rd_T127 l0 x12_1).f0) == 3) = true := beq_iff_eq.mpr c50
                  have c50b1 : (((rd_T127 l0 x12_1).f0) != 3) = false := bne_eq_false_iff_eq.mpr c50
                  clear c50
                  have H' := Aside0.mk H
                  clear H
                  have p321 : 0 ≤ (x12_1 : Int) := of_decide_eq_true (by first | (with_reducible assumption) | assumption)
                  have q321 : x12_1 < (l0.length : Int) := of_decide_eq_true (by first | (with_reducible assumption) | assumption)
                  obtain ⟨ad321, A321_2, c321_2, A321_3, c321_3, A321_4, c321_4, e321, hx321_0, hx321_1, hx321_2, hx321_3, hx321_4, hl321_2, hi321_2, hl321_3, hi321_3, hl321_4, hi321_4⟩ := at_T127 HR0.out x12_1 p321 q321
                  cases e321
                  replace hx321_0 := (HB.out.cell (World.block_lt_of_cell? w _ hx321_0)).trans hx321_0
                  replace hx321_1 := (HB.out.cell (World.block_lt_of_cell? w _ hx321_1)).trans hx321_1
                  replace hx321_2 := (HB.out.cell (World.block_lt_of_cell? w _ hx321_2)).trans hx321_2
                  replace hx321_3 := (HB.out.cell (World.block_lt_of_cell? w _ hx321_3)).trans hx321_3
                  replace hx321_4 := (HB.out.cell (World.block_lt_of_cell? w _ hx321_4)).trans hx321_4
                  have HR321_2 := Aside0.mk hi321_2
                  have HC321_2 := Aside0.mk hl321_2
                  clear hi321_2 hl321_2
                  have HR321_3 := Aside0.mk hi321_3
                  have HC321_3 := Aside0.mk hl321_3
                  clear hi321_3 hl321_3
                  have HR321_4 := Aside0.mk hi321_4
                  have HC321_4 := Aside0.mk hl321_4
                  clear hi321_4 hl321_4
                  replace p321 := eq_true p321
                  replace q321 := eq_true q321
                  go_wp2_with (first | ((with_reducible refine gate_dst (N := 9) rfl ?_); refine box_event ?hg (N := 9) ?hd (cs := #[.int .i64 0, .int .i64 0, .slice none 0 0, .slice none 0 0, .slice none 0 0]) (t := 127) ?hr ?_; (case hd => rfl); (case hg => rfl); (case hr => first | (go_simp; done) | (go_simp; rfl)); intro gb322 hg w51 hbox hb; have n0_ := Aside0.mk (Kd.V_below (Kd.V_elderB (by (with_reducible repeat (first | apply Kd.V_alloc | apply Kd.V_drewN | apply Kd.V_drew)); exact HO_1.out) gb322 (Nat.le_of_eq hg.symm)) hb); have n1_ := Aside0.mk (below_step (by repeat (first | (with_reducible first | exact HB.out | apply below_alloc | apply pw_below_drewN | apply below_drew1) | exact HB.out)) hb); have n2_ := Aside0.mk (hbox); have n3_ := Aside0.mk ((by rw [hg]; exact (below_size (by repeat (first | (with_reducible first | exact HB.out | apply below_alloc | apply pw_below_drewN | apply below_drew1) | exact HB.out))) : w.heap.size ≤ gb322)); have n4_ := Aside0.mk ((by rw [hg]; exact (below_size (by repeat (first | (with_reducible first | exact HB.out | apply below_alloc | apply pw_below_drewN | apply below_drew1) | exact HB.out))) : w.heap.size ≤ gb322)); clear HO_1; clear HB; have HO_1 := n0_; have HB := n1_; have BK322 := n2_; have GW322 := n3_; have GE322 := n4_; clear n0_ n1_ n2_ n3_ n4_; clear hb hbox hg; have hcz52_0 : w51.cell? ⟨gb322, 0, none⟩ = some (.int .i64 0) := (blk_cell BK322.out 0).trans rfl; have hcz52_1 : w51.cell? ⟨gb322, 1, none⟩ = some (.int .i64 0) := (blk_cell BK322.out 1).trans rfl; have hcz52_2 : w51.cell? ⟨gb322, 2, none⟩ = some (.slice none 0 0) := (blk_cell BK322.out 2).trans rfl; have hcz52_3 : w51.cell? ⟨gb322, 3, none⟩ = some (.slice none 0 0) := (blk_cell BK322.out 3).trans rfl; have hcz52_4 : w51.cell? ⟨gb322, 4, none⟩ = some (.slice none 0 0) := (blk_cell BK322.out 4).trans rfl; have hfz52_0 := blk_frozen BK322.out 0; have hfz52_1 := blk_frozen BK322.out 1; have hfz52_2 := blk_frozen BK322.out 2; have hfz52_3 := blk_frozen BK322.out 3; have hfz52_4 := blk_frozen BK322.out 4))
                  go_loopg [1, 2] k1 (fun kq v1 v2 w' => ∃ (x1_2 : List Int) (x2_2 : Int), v2 = .int .i64 x2_2 ∧ Aside0 (codemasonref_Shaped.l1 kq x1_2 x2_2 l0 (l0.length : Int) x12_1 ((rd_T127 l0 x12_1).f0) ((rd_T127 l0 x12_1).f1) ((rd_T127 l0 x12_1).f2) ((rd_T127 l0 x12_1).f3) ((rd_T127 l0 x12_1).f4) = some (r1, r2)) ∧ Aside0 (kq ≤ k1) ∧ Aside0 (Kd.V (Kd.int .i64) 3 w' w.heap.size (fun k_ => (P1_ k_ ∨ w.heap.size ≤ k_) ∧ k_ ≠ gb322) v1 x1_2) ∧ Aside0 (w'.heap[gb322]? = some (.cells #[.int .i64 ((rd_T127 l0 x12_1).f0), .int .i64 ((rd_T127 l0 x12_1).f1), (.slice A321_2 ((rd_T127 l0 x12_1).f2).length c321_2), (.slice A321_3 ((rd_T127 l0 x12_1).f3).length c321_3), (.slice A321_4 ((rd_T127 l0 x12_1).f4).length c321_4)] 127 (0, 0))) ∧ Aside0 (Below w.heap.size w w'))
                  case atStart => exact ⟨(x1_1), (x2_1), (by first | rfl | (simp; done) | (simp [*]; done)), H', ⟨Nat.le_refl _⟩, ⟨by (with_reducible repeat (first | apply Kd.V_alloc | apply Kd.V_drewN | apply Kd.V_drew)); exact Kd.V_mono (Kd.V_far (p := ⟨gb322, 4, none⟩) (Kd.V_far (p := ⟨gb322, 3, none⟩) (Kd.V_far (p := ⟨gb322, 2, none⟩) (Kd.V_far (p := ⟨gb322, 1, none⟩) (Kd.V_far (p := ⟨gb322, 0, none⟩) (Kd.V_mono HO_1.out (fun k_ hk => (⟨hk, hk.2⟩ : _ ∧ k_ ≠ gb322))) (fun _ hk => hk.2) (.int .i64 ((rd_T127 l0 x12_1).f0))) (fun _ hk => hk.2) (.int .i64 ((rd_T127 l0 x12_1).f1))) (fun _ hk => hk.2) (.slice A321_2 ((rd_T127 l0 x12_1).f2).length c321_2)) (fun _ hk => hk.2) (.slice A321_3 ((rd_T127 l0 x12_1).f3).length c321_3)) (fun _ hk => hk.2) (.slice A321_4 ((rd_T127 l0 x12_1).f4).length c321_4)) (fun _ hk => ⟨hk.1.1, hk.1.2⟩)⟩, ⟨by (with_reducible repeat (first | refine blk_drewN ?_ _ | refine blk_drew ?_ | refine blk_alloc ?_ _)); refine blk_put (cs := #[.int .i64 ((rd_T127 l0 x12_1).f0), .int .i64 ((rd_T127 l0 x12_1).f1), .slice A321_2 ((rd_T127 l0 x12_1).f2).length c321_2, .slice A321_3 ((rd_T127 l0 x12_1).f3).length c321_3, .slice none 0 0]) ?_ 4 _ rfl; (with_reducible repeat (first | refine blk_drewN ?_ _ | refine blk_drew ?_ | refine blk_alloc ?_ _)); refine blk_put (cs := #[.int .i64 ((rd_T127 l0 x12_1).f0), .int .i64 ((rd_T127 l0 x12_1).f1), .slice A321_2 ((rd_T127 l0 x12_1).f2).length c321_2, .slice none 0 0, .slice none 0 0]) ?_ 3 _ rfl; (with_reducible repeat (first | refine blk_drewN ?_ _ | refine blk_drew ?_ | refine blk_alloc ?_ _)); refine blk_put (cs := #[.int .i64 ((rd_T127 l0 x12_1).f0), .int .i64 ((rd_T127 l0 x12_1).f1), .slice none 0 0, .slice none 0 0, .slice none 0 0]) ?_ 2 _ rfl; (with_reducible repeat (first | refine blk_drewN ?_ _ | refine blk_drew ?_ | refine blk_alloc ?_ _)); refine blk_put (cs := #[.int .i64 ((rd_T127 l0 x12_1).f0), .int .i64 0, .slice none 0 0, .slice none 0 0, .slice none 0 0]) ?_ 1 _ rfl; (with_reducible repeat (first | refine blk_drewN ?_ _ | refine blk_drew ?_ | refine blk_alloc ?_ _)); refine blk_put (cs := #[.int .i64 0, .int .i64 0, .slice none 0 0, .slice none 0 0, .slice none 0 0]) ?_ 0 _ rfl; (with_reducible repeat (first | refine blk_drewN ?_ _ | refine blk_drew ?_ | refine blk_alloc ?_ _)); exact BK322.out⟩, ⟨by repeat (first | (with_reducible first | exact HB.out | apply below_alloc | apply pw_below_drewN | apply below_drew1 | refine below_set ?_ GE322.out) | exact HB.out)⟩⟩
                  case round =>
                    clear H'
                    try clear c1
                    try clear c2
                    try clear p2
                    try clear c3
                    try clear p3
                    try clear q3
                    try clear hx3
                    try clear c4
                    try clear c4b0
                    try clear c5
                    try clear c5b0
                    try clear c6
                    try clear c6b0
                    try clear p6
                    try clear c7
                    try clear c7b0
                    try clear c7b1
                    try clear c8
                    try clear c9
                    try clear c9b0
                    try clear c18
                    try clear c18b0
                    try clear c18b1
                    try clear c19
                    try clear c19b0
                    try clear c20
                    try clear c20b0
                    try clear c21
                    try clear c21b0
                    try clear c21b1
                    try clear c23
                    try clear c23b0
                    try clear c32
                    try clear p32
                    try clear q32
                    try clear hx32
                    try clear c35
                    try clear c37
                    try clear c37b0
                    try clear c50
                    try clear c50b0
                    try clear c50b1
                    try clear hcz11_0
                    try clear hcz11_1
                    try clear hcz11_2
                    try clear hcz11_3
                    try clear hcz11_4
                    try clear hcz15_0
                    try clear hcz15_1
                    try clear hcz15_2
                    try clear hcz15_3
                    try clear hcz15_4
                    try clear hcz25_0
                    try clear hcz25_1
                    try clear hcz25_2
                    try clear hcz25_3
                    try clear hcz25_4
                    try clear hcz27_0
                    try clear hcz27_1
                    try clear hcz27_2
                    try clear hcz27_3
                    try clear hcz27_4
                    try clear hcz31_0
                    try clear hcz31_1
                    try clear hcz31_2
                    try clear hcz31_3
                    try clear hcz31_4
                    try clear hcz33_0
                    try clear hcz33_1
                    try clear hcz33_2
                    try clear hcz33_3
                    try clear hcz33_4
                    try clear hcz39_0
                    try clear hcz39_1
                    try clear hcz39_2
                    try clear hcz39_3
                    try clear hcz39_4
                    try clear hcz41_0
                    try clear hcz41_1
                    try clear hcz41_2
                    try clear hcz41_3
                    try clear hcz41_4
                    try clear hcz45_0
                    try clear hcz45_1
                    try clear hcz45_2
                    try clear hcz45_3
                    try clear hcz45_4
                    try clear hcz47_0
                    try clear hcz47_1
                    try clear hcz47_2
                    try clear hcz47_3
                    try clear hcz47_4
                    try clear hcz52_0
                    try clear hcz52_1
                    try clear hcz52_2
                    try clear hcz52_3
                    try clear hcz52_4
                    try clear hfz11_0
                    try clear hfz11_1
                    try clear hfz11_2
                    try clear hfz11_3
                    try clear hfz11_4
                    try clear hfz15_0
                    try clear hfz15_1
                    try clear hfz15_2
                    try clear hfz15_3
                    try clear hfz15_4
                    try clear hfz25_0
                    try clear hfz25_1
                    try clear hfz25_2
                    try clear hfz25_3
                    try clear hfz25_4
                    try clear hfz27_0
                    try clear hfz27_1
                    try clear hfz27_2
                    try clear hfz27_3
                    try clear hfz27_4
                    try clear hfz31_0
                    try clear hfz31_1
                    try clear hfz31_2
                    try clear hfz31_3
                    try clear hfz31_4
                    try clear hfz33_0
                    try clear hfz33_1
                    try clear hfz33_2
                    try clear hfz33_3
                    try clear hfz33_4
                    try clear hfz39_0
                    try clear hfz39_1
                    try clear hfz39_2
                    try clear hfz39_3
                    try clear hfz39_4
                    try clear hfz41_0
                    try clear hfz41_1
                    try clear hfz41_2
                    try clear hfz41_3
                    try clear hfz41_4
                    try clear hfz45_0
                    try clear hfz45_1
                    try clear hfz45_2
                    try clear hfz45_3
                    try clear hfz45_4
                    try clear hfz47_0
                    try clear hfz47_1
                    try clear hfz47_2
                    try clear hfz47_3
                    try clear hfz47_4
                    try clear hfz52_0
                    try clear hfz52_1
                    try clear hfz52_2
                    try clear hfz52_3
                    try clear hfz52_4
                    try clear hx321_0
                    try clear hx321_1
                    try clear hx321_2
                    try clear hx321_3
                    try clear hx321_4
                    try clear hx326_0
                    try clear p2
                    try clear p321
                    try clear p326
                    try clear q321
                    try clear q326
                    obtain ⟨x1_2, x2_2, rfl, HA, HK2, HO_1, BK322, HB⟩ := hrel
                    cases gk with
                    | zero => exact absurd HA.out (by simp [codemasonref_Shaped.l1])
                    | succ k2 =>
                      have H := HA.out
                      clear HA
                      simp only [codemasonref_Shaped.l1] at H
                      have HC53 := Aside0.mk H
                      clear H
                      go_upto_region 12 with (fail)
                      go_cut [59] (fun v59 wc => ∃ (kq : Nat) (x59_52 : Bool), v59 = .bool x59_52 ∧ Aside0 (codemasonref_Shaped.j2 kq x1_2 x2_2 l0 (l0.length : Int) x12_1 x59_52 ((rd_T127 l0 x12_1).f0) ((rd_T127 l0 x12_1).f1) ((rd_T127 l0 x12_1).f2) ((rd_T127 l0 x12_1).f3) ((rd_T127 l0 x12_1).f4) = some (r1, r2)) ∧ Aside0 (kq ≤ k2) ∧ Aside0 (Kd.V (Kd.int .i64) 3 wc w.heap.size (fun k_ => (P1_ k_ ∨ w.heap.size ≤ k_) ∧ k_ ≠ gb322) u1 x1_2) ∧ Aside0 (wc.heap[gb322]? = some (.cells #[.int .i64 ((rd_T127 l0 x12_1).f0), .int .i64 ((rd_T127 l0 x12_1).f1), (.slice A321_2 ((rd_T127 l0 x12_1).f2).length c321_2), (.slice A321_3 ((rd_T127 l0 x12_1).f3).length c321_3), (.slice A321_4 ((rd_T127 l0 x12_1).f4).length c321_4)] 127 (0, 0))) ∧ Aside0 (Below w.heap.size w wc))
                      case first =>
                        have H := HC53.out
                        clear HC53
                        by_cases c54 : x2_2 ≥ 0
                        · rw [if_pos c54] at H
                          have c54b0 : decide (0 ≤ x2_2) = true := decide_eq_true c54
                          clear c54
                          (first | rw [c54b0] | (simp only [i64_w, i32_w]; rw [c54b0]) | skip)
                          by_cases c55 : 0 ≤ ((rd_T127 l0 x12_1).f1)
                          · rw [if_pos c55] at H
                            have c55b0 : decide (0 ≤ ((rd_T127 l0 x12_1).f1)) = true := decide_eq_true c55
                            clear c55
                            by_cases c56 : ((rd_T127 l0 x12_1).f1) < (x1_2.length : Int)
                            · rw [if_pos c56] at H
                              have c56b0 : decide (((rd_T127 l0 x12_1).f1) < (x1_2.length : Int)) = true := decide_eq_true c56
                              clear c56
                              have H' := Aside0.mk H
                              clear H
                              have hcz57_0 : wr.cell? ⟨gb322, 0, none⟩ = some (.int .i64 ((rd_T127 l0 x12_1).f0)) := (blk_cell BK322.out 0).trans rfl
                              have hcz57_1 : wr.cell? ⟨gb322, 1, none⟩ = some (.int .i64 ((rd_T127 l0 x12_1).f1)) := (blk_cell BK322.out 1).trans rfl
                              have hcz57_2 : wr.cell? ⟨gb322, 2, none⟩ = some (.slice A321_2 ((rd_T127 l0 x12_1).f2).length c321_2) := (blk_cell BK322.out 2).trans rfl
                              have hcz57_3 : wr.cell? ⟨gb322, 3, none⟩ = some (.slice A321_3 ((rd_T127 l0 x12_1).f3).length c321_3) := (blk_cell BK322.out 3).trans rfl
                              have hcz57_4 : wr.cell? ⟨gb322, 4, none⟩ = some (.slice A321_4 ((rd_T127 l0 x12_1).f4).length c321_4) := (blk_cell BK322.out 4).trans rfl
                              have hfz57_0 := blk_frozen BK322.out 0
                              have hfz57_1 := blk_frozen BK322.out 1
                              have hfz57_2 := blk_frozen BK322.out 2
                              have hfz57_3 := blk_frozen BK322.out 3
                              have hfz57_4 := blk_frozen BK322.out 4
                              obtain ⟨Ao58, co58, eo58⟩ := Kd.V_slice HO_1.out
                              subst eo58
                              have p335 : 0 ≤ (((rd_T127 l0 x12_1).f1) : Int) := of_decide_eq_true (by first | (with_reducible assumption) | assumption)
                              have q335 : ((rd_T127 l0 x12_1).f1) < (x1_2.length : Int) := of_decide_eq_true (by first | (with_reducible assumption) | assumption)
                              obtain ⟨ad335, e335, hx335_0⟩ := Kd.at_int (Kd.V_reads' HO_1.out).2.2 ((rd_T127 l0 x12_1).f1) p335 q335
                              cases e335
                              replace p335 := eq_true p335
                              replace q335 := eq_true q335
                              go_wp2
                              go_meet
                              case rel => exact ⟨_, (((rd x1_2 ((rd_T127 l0 x12_1).f1)) != 0)), (by first | rfl | (simp; done) | (simp [*]; done)), H', ⟨by have := HK1.out; have := HK2.out; first | omega | exact Nat.le_refl _⟩, ⟨by (with_reducible repeat (first | apply Kd.V_alloc | apply Kd.V_drewN | apply Kd.V_drew)); exact HO_1.out⟩, ⟨by (with_reducible repeat (first | refine blk_drewN ?_ _ | refine blk_drew ?_ | refine blk_alloc ?_ _)); exact BK322.out⟩, ⟨by repeat (first | (with_reducible first | exact HB.out | apply below_alloc | apply pw_below_drewN | apply below_drew1 | refine below_set ?_ GE322.out) | exact HB.out)⟩⟩
                            · rw [if_neg c56] at H
                              exact absurd H (by simp)
                          · rw [if_neg c55] at H
                            exact absurd H (by simp)
                        · rw [if_neg c54] at H
                          have c54b0 : decide (0 ≤ x2_2) = false := decide_eq_false c54
                          clear c54
                          (first | rw [c54b0] | (simp only [i64_w, i32_w]; rw [c54b0]) | skip)
                          have H' := Aside0.mk H
                          clear H
                          go_wp2
                          go_meet
                          case rel => exact ⟨_, (false), (by first | rfl | (simp; done) | (simp [*]; done)), H', ⟨by have := HK1.out; have := HK2.out; first | omega | exact Nat.le_refl _⟩, ⟨by (with_reducible repeat (first | apply Kd.V_alloc | apply Kd.V_drewN | apply Kd.V_drew)); exact HO_1.out⟩, ⟨by (with_reducible repeat (first | refine blk_drewN ?_ _ | refine blk_drew ?_ | refine blk_alloc ?_ _)); exact BK322.out⟩, ⟨by repeat (first | (with_reducible first | exact HB.out | apply below_alloc | apply pw_below_drewN | apply below_drew1 | refine below_set ?_ GE322.out) | exact HB.out)⟩⟩
                      case rest =>
                        clear HC53
                        try clear c1
                        try clear c2
                        try clear p2
                        try clear c3
                        try clear p3
                        try clear q3
                        try clear hx3
                        try clear c4
                        try clear c4b0
                        try clear c5
                        try clear c5b0
                        try clear c6
                        try clear c6b0
                        try clear p6
                        try clear c7
                        try clear c7b0
                        try clear c7b1
                        try clear c8
                        try clear c9
                        try clear c9b0
                        try clear c18
                        try clear c18b0
                        try clear c18b1
                        try clear c19
                        try clear c19b0
                        try clear c20
                        try clear c20b0
                        try clear c21
                        try clear c21b0
                        try clear c21b1
                        try clear c23
                        try clear c23b0
                        try clear c32
                        try clear p32
                        try clear q32
                        try clear hx32
                        try clear p33
                        try clear q33
                        try clear hx33
                        try clear c35
                        try clear c37
                        try clear c37b0
                        try clear c50
                        try clear c50b0
                        try clear c50b1
                        try clear c54
                        try clear c54b0
                        try clear c55
                        try clear c55b0
                        try clear c56
                        try clear c56b0
                        try clear hcz11_0
                        try clear hcz11_1
                        try clear hcz11_2
                        try clear hcz11_3
                        try clear hcz11_4
                        try clear hcz15_0
                        try clear hcz15_1
                        try clear hcz15_2
                        try clear hcz15_3
                        try clear hcz15_4
                        try clear hcz25_0
                        try clear hcz25_1
                        try clear hcz25_2
                        try clear hcz25_3
                        try clear hcz25_4
                        try clear hcz27_0
                        try clear hcz27_1
                        try clear hcz27_2
                        try clear hcz27_3
                        try clear hcz27_4
                        try clear hcz31_0
                        try clear hcz31_1
                        try clear hcz31_2
                        try clear hcz31_3
                        try clear hcz31_4
                        try clear hcz33_0
                        try clear hcz33_1
                        try clear hcz33_2
                        try clear hcz33_3
                        try clear hcz33_4
                        try clear hcz39_0
                        try clear hcz39_1
                        try clear hcz39_2
                        try clear hcz39_3
                        try clear hcz39_4
                        try clear hcz41_0
                        try clear hcz41_1
                        try clear hcz41_2
                        try clear hcz41_3
                        try clear hcz41_4
                        try clear hcz45_0
                        try clear hcz45_1
                        try clear hcz45_2
                        try clear hcz45_3
                        try clear hcz45_4
                        try clear hcz47_0
                        try clear hcz47_1
                        try clear hcz47_2
                        try clear hcz47_3
                        try clear hcz47_4
                        try clear hcz52_0
                        try clear hcz52_1
                        try clear hcz52_2
                        try clear hcz52_3
                        try clear hcz52_4
                        try clear hcz57_0
                        try clear hcz57_1
                        try clear hcz57_2
                        try clear hcz57_3
                        try clear hcz57_4
                        try clear hfz11_0
                        try clear hfz11_1
                        try clear hfz11_2
                        try clear hfz11_3
                        try clear hfz11_4
                        try clear hfz15_0
                        try clear hfz15_1
                        try clear hfz15_2
                        try clear hfz15_3
                        try clear hfz15_4
                        try clear hfz25_0
                        try clear hfz25_1
                        try clear hfz25_2
                        try clear hfz25_3
                        try clear hfz25_4
                        try clear hfz27_0
                        try clear hfz27_1
                        try clear hfz27_2
                        try clear hfz27_3
                        try clear hfz27_4
                        try clear hfz31_0
                        try clear hfz31_1
                        try clear hfz31_2
                        try clear hfz31_3
                        try clear hfz31_4
                        try clear hfz33_0
                        try clear hfz33_1
                        try clear hfz33_2
                        try clear hfz33_3
                        try clear hfz33_4
                        try clear hfz39_0
                        try clear hfz39_1
                        try clear hfz39_2
                        try clear hfz39_3
                        try clear hfz39_4
                        try clear hfz41_0
                        try clear hfz41_1
                        try clear hfz41_2
                        try clear hfz41_3
                        try clear hfz41_4
                        try clear hfz45_0
                        try clear hfz45_1
                        try clear hfz45_2
                        try clear hfz45_3
                        try clear hfz45_4
                        try clear hfz47_0
                        try clear hfz47_1
                        try clear hfz47_2
                        try clear hfz47_3
                        try clear hfz47_4
                        try clear hfz52_0
                        try clear hfz52_1
                        try clear hfz52_2
                        try clear hfz52_3
                        try clear hfz52_4
                        try clear hfz57_0
                        try clear hfz57_1
                        try clear hfz57_2
                        try clear hfz57_3
                        try clear hfz57_4
                        try clear hx321_0
                        try clear hx321_1
                        try clear hx321_2
                        try clear hx321_3
                        try clear hx321_4
                        try clear hx326_0
                        try clear hx335_0
                        try clear p2
                        try clear p3
                        try clear p32
                        try clear p321
                        try clear p326
                        try clear p335
                        try clear p6
                        try clear q3
                        try clear q32
                        try clear q321
                        try clear q326
                        try clear q335
                        obtain ⟨kq, x59_52, rfl, HA, HJ52, HO_1, BK322, HB⟩ := hcut
                        cases kq with
                        | zero => exact absurd HA.out (by simp [codemasonref_Shaped.j2])
                        | succ kj52 =>
                          have H := HA.out
                          clear HA
                          simp only [codemasonref_Shaped.j2] at H
                          by_cases c59 : x59_52 = true
                          · subst c59
                            have H1 : (if (wrap64 (x2_2 - 1)) ≥ 0 then ((codemasonref_Shaped.f kj52 ((rd_T127 l0 x12_1).f3) x1_2 (wrap64 (x2_2 - 1))).bind fun bt336 => (codemasonref_Shaped.l1 kj52 bt336.1 bt336.2 l0 (l0.length : Int) x12_1 ((rd_T127 l0 x12_1).f0) ((rd_T127 l0 x12_1).f1) ((rd_T127 l0 x12_1).f2) ((rd_T127 l0 x12_1).f3) ((rd_T127 l0 x12_1).f4))) else (codemasonref_Shaped.l1 kj52 x1_2 (wrap64 (x2_2 - 1)) l0 (l0.length : Int) x12_1 ((rd_T127 l0 x12_1).f0) ((rd_T127 l0 x12_1).f1) ((rd_T127 l0 x12_1).f2) ((rd_T127 l0 x12_1).f3) ((rd_T127 l0 x12_1).f4))) = some (r1, r2) := by rw [if_pos rfl] at H; exact H
                            clear H
                            have H := H1
                            clear H1
                            by_cases c60 : (wrap64 (x2_2 - 1)) ≥ 0
                            · rw [if_pos c60] at H
                              have c60b0 : decide (0 ≤ (wrap64 (x2_2 - 1))) = true := decide_eq_true c60
                              clear c60
                              replace H := Option.bind_eq_some_iff.mp H
                              obtain ⟨⟨t336, t339⟩, A610, H⟩ := H
                              replace H : (codemasonref_Shaped.l1 kj52 t336 t339 l0 (l0.length : Int) x12_1 ((rd_T127 l0 x12_1).f0) ((rd_T127 l0 x12_1).f1) ((rd_T127 l0 x12_1).f2) ((rd_T127 l0 x12_1).f3) ((rd_T127 l0 x12_1).f4)) = some (r1, r2) := H
                              have A61 := Aside0.mk A610
                              clear A610
                              have H' := Aside0.mk H
                              clear H
                              have hcz62_0 : wc.cell? ⟨gb322, 0, none⟩ = some (.int .i64 ((rd_T127 l0 x12_1).f0)) := (blk_cell BK322.out 0).trans rfl
                              have hcz62_1 : wc.cell? ⟨gb322, 1, none⟩ = some (.int .i64 ((rd_T127 l0 x12_1).f1)) := (blk_cell BK322.out 1).trans rfl
                              have hcz62_2 : wc.cell? ⟨gb322, 2, none⟩ = some (.slice A321_2 ((rd_T127 l0 x12_1).f2).length c321_2) := (blk_cell BK322.out 2).trans rfl
                              have hcz62_3 : wc.cell? ⟨gb322, 3, none⟩ = some (.slice A321_3 ((rd_T127 l0 x12_1).f3).length c321_3) := (blk_cell BK322.out 3).trans rfl
                              have hcz62_4 : wc.cell? ⟨gb322, 4, none⟩ = some (.slice A321_4 ((rd_T127 l0 x12_1).f4).length c321_4) := (blk_cell BK322.out 4).trans rfl
                              have hfz62_0 := blk_frozen BK322.out 0
                              have hfz62_1 := blk_frozen BK322.out 1
                              have hfz62_2 := blk_frozen BK322.out 2
                              have hfz62_3 := blk_frozen BK322.out 3
                              have hfz62_4 := blk_frozen BK322.out 4
                              obtain ⟨Ao63, co63, eo63⟩ := Kd.V_slice HO_1.out
                              subst eo63
                              go_wp2_with (first | ((with_reducible refine gate_callee (f := 35) rfl ?_); refine goesL_ (some 69) rfl rfl Try.func35 (by kernel_rfl) rfl #[.slice A321_3 ((rd_T127 l0 x12_1).f3).length c321_3, .slice Ao63 x1_2.length co63, .int .i64 (wrap64 (x2_2 - 1))] rfl (by (try simp only [List.map_toArray, List.map_cons, List.map_nil]); first | done | rfl | (simp only [List.length_drop, List.length_take]; rfl)) ?_; (with_reducible refine (ih kj52 (by have := HK1.out; have := HK2.out; have := HJ52.out; omega) _ _ ((rd_T127 l0 x12_1).f3) (fun k_ => ((P1_ k_ ∨ w.heap.size ≤ k_) ∧ k_ ≠ gb322)) _ _ x1_2 (wrap64 (x2_2 - 1)) t336 t339 _ ?side1 ?side2 ?side3 A61.out).mono ?_); (case side1 => repeat (first | exact (Kd.C_below HR321_3.out HB.out) | (with_reducible refine Kd.C_alloc ?_ _) | (with_reducible refine Kd.C_drewN ?_ _) | (with_reducible refine Kd.C_drew ?_))); (case side2 => exact HC321_3.out); (case side3 => exact HO_1.out); rintro e w64 ⟨v337, rfl, ho0, hb⟩; refine ⟨_, rfl, ?_⟩; have n0_ := Aside0.mk (Kd.V_below (by (with_reducible repeat (first | apply Kd.V_alloc | apply Kd.V_drewN | apply Kd.V_drew)); exact HO_1.out) hb); have n1_ := Aside0.mk (Kd.V_lower (Kd.V_mono (ok' := fun k_ => (P1_ k_ ∨ w.heap.size ≤ k_) ∧ k_ ≠ gb322) ho0 (fun k_ hk_ => ⟨Or.elim hk_ (fun hs_ => hs_.1) (fun hn_ => (.inr (Nat.le_trans (below_size (by repeat (first | (with_reducible first | exact HB.out | apply below_alloc | apply pw_below_drewN | apply below_drew1 | refine below_set ?_ GE322.out) | exact HB.out))) hn_))), Or.elim hk_ (fun hs_ => hs_.2) (fun hn_ => (Kd.freshB (g := gb322) (o := .cells #[.int .i64 ((rd_T127 l0 x12_1).f0), .int .i64 ((rd_T127 l0 x12_1).f1), .slice A321_2 ((rd_T127 l0 x12_1).f2).length c321_2, .slice A321_3 ((rd_T127 l0 x12_1).f3).length c321_3, .slice A321_4 ((rd_T127 l0 x12_1).f4).length c321_4] 127 (0, 0)) (by (with_reducible repeat (first | refine blk_drewN ?_ _ | refine blk_drew ?_ | refine blk_alloc ?_ _)); exact BK322.out) k_ hn_))⟩)) (below_size (by repeat (first | (with_reducible first | exact HB.out | apply below_alloc | apply pw_below_drewN | apply below_drew1 | refine below_set ?_ GE322.out) | exact HB.out)))); have n2_ := Aside0.mk (blk_below (g := gb322) (o := .cells #[.int .i64 ((rd_T127 l0 x12_1).f0), .int .i64 ((rd_T127 l0 x12_1).f1), .slice A321_2 ((rd_T127 l0 x12_1).f2).length c321_2, .slice A321_3 ((rd_T127 l0 x12_1).f3).length c321_3, .slice A321_4 ((rd_T127 l0 x12_1).f4).length c321_4] 127 (0, 0)) (by (with_reducible repeat (first | refine blk_drewN ?_ _ | refine blk_drew ?_ | refine blk_alloc ?_ _)); exact BK322.out) hb); have n3_ := Aside0.mk (below_step (by repeat (first | (with_reducible first | exact HB.out | apply below_alloc | apply pw_below_drewN | apply below_drew1 | refine below_set ?_ GE322.out) | exact HB.out)) hb); clear HO_1; clear BK322; clear HB; have HO_1 := n0_; have HO338 := n1_; have BK322 := n2_; have HB := n3_; clear n0_ n1_ n2_ n3_; (try clear hb); (try clear hb2); (try clear hk); (try clear hi); (try clear ho0)))
                              go_roundg kj52
                              case measure => have := HK1.out; have := HK2.out; have := HJ52.out; omega
                              case rel => exact ⟨(t336), (t339), (by first | rfl | (simp; done) | (simp [*]; done)), H', ⟨by have := HK1.out; have := HK2.out; have := HJ52.out; omega⟩, ⟨by (with_reducible repeat (first | apply Kd.V_alloc | apply Kd.V_drewN | apply Kd.V_drew)); exact HO338.out⟩, ⟨by (with_reducible repeat (first | refine blk_drewN ?_ _ | refine blk_drew ?_ | refine blk_alloc ?_ _)); exact BK322.out⟩, ⟨by repeat (first | (with_reducible first | exact HB.out | apply below_alloc | apply pw_below_drewN | apply below_drew1 | refine below_set ?_ GE322.out) | exact HB.out)⟩⟩
                            · rw [if_neg c60] at H
                              have c60b0 : decide (0 ≤ (wrap64 (x2_2 - 1))) = false := decide_eq_false c60
                              clear c60
                              have H' := Aside0.mk H
                              clear H
                              go_wp2
                              go_roundg kj52
                              case measure => have := HK1.out; have := HK2.out; have := HJ52.out; omega
                              case rel => exact ⟨(x1_2), (wrap64 (x2_2 - 1)), (by first | rfl | (simp; done) | (simp [*]; done)), H', ⟨by have := HK1.out; have := HK2.out; have := HJ52.out; omega⟩, ⟨by (with_reducible repeat (first | apply Kd.V_alloc | apply Kd.V_drewN | apply Kd.V_drew)); exact HO_1.out⟩, ⟨by (with_reducible repeat (first | refine blk_drewN ?_ _ | refine blk_drew ?_ | refine blk_alloc ?_ _)); exact BK322.out⟩, ⟨by repeat (first | (with_reducible first | exact HB.out | apply below_alloc | apply pw_below_drewN | apply below_drew1 | refine below_set ?_ GE322.out) | exact HB.out)⟩⟩
                          · replace c59 := Bool.eq_false_iff.mpr c59
                            subst c59
                            have H1 : (if x2_2 < 0 then (some (x1_2, x2_2)) else (codemasonref_Shaped.l0 kj52 x1_2 x2_2 l0 (l0.length : Int) (wrap64 (x12_1 + 1)))) = some (r1, r2) := by rw [if_neg (show ¬ (false = true) by decide)] at H; exact H
                            clear H
                            have H := H1
                            clear H1
                            by_cases c65 : x2_2 < 0
                            · rw [if_pos c65] at H
                              have c65b0 : decide (x2_2 < 0) = true := decide_eq_true c65
                              clear c65
                              simp only [Option.some.injEq, Prod.mk.injEq] at H
                              obtain ⟨rfl, rfl⟩ := H
                              go_wp2
                              go_ret2
                              exact ⟨_, by first | rfl | (simp [errW_none, errW_some] <;> rfl) | (simp [*, errW_none, errW_some] <;> rfl), by (with_reducible repeat (first | apply Kd.V_alloc | apply Kd.V_drewN | apply Kd.V_drew)); exact Kd.V_mono HO_1.out (fun _ hk => hk.1), by repeat (first | (with_reducible first | exact HB.out | apply below_alloc | apply pw_below_drewN | apply below_drew1 | refine below_set ?_ GE322.out) | exact HB.out)⟩
                            · rw [if_neg c65] at H
                              have c65b0 : decide (x2_2 < 0) = false := decide_eq_false c65
                              clear c65
                              have H' := Aside0.mk H
                              clear H
                              go_wp2
                              go_roundg kj52
                              case measure => have := HK1.out; have := HK2.out; have := HJ52.out; omega
                              case rel => exact ⟨(x1_2), (x2_2), (wrap64 (x12_1 + 1)), (by first | rfl | (simp; done) | (simp [*]; done)), (by first | rfl | (simp; done) | (simp [*]; done)), H', ⟨by have := HK1.out; have := HK2.out; have := HJ52.out; omega⟩, ⟨by (with_reducible repeat (first | apply Kd.V_alloc | apply Kd.V_drewN | apply Kd.V_drew)); exact Kd.V_mono HO_1.out (fun _ hk => hk.1)⟩, ⟨by repeat (first | (with_reducible first | exact HB.out | apply below_alloc | apply pw_below_drewN | apply below_drew1 | refine below_set ?_ GE322.out) | exact HB.out)⟩⟩
                · rw [if_neg c50] at H
                  have c50b0 : (((rd_T127 l0 x12_1).f0) == 3) = false := beq_eq_false_iff_ne.mpr c50
                  have c50b1 : (((rd_T127 l0 x12_1).f0) != 3) = true := bne_iff_ne.mpr c50
                  by_cases c66 : x2_1 < 0
                  · rw [if_pos c66] at H
                    have c66b0 : decide (x2_1 < 0) = true := decide_eq_true c66
                    clear c66
                    simp only [Option.some.injEq, Prod.mk.injEq] at H
                    obtain ⟨rfl, rfl⟩ := H
                    have p321 : 0 ≤ (x12_1 : Int) := of_decide_eq_true (by first | (with_reducible assumption) | assumption)
                    have q321 : x12_1 < (l0.length : Int) := of_decide_eq_true (by first | (with_reducible assumption) | assumption)
                    obtain ⟨ad321, A321_2, c321_2, A321_3, c321_3, A321_4, c321_4, e321, hx321_0, hx321_1, hx321_2, hx321_3, hx321_4, hl321_2, hi321_2, hl321_3, hi321_3, hl321_4, hi321_4⟩ := at_T127 HR0.out x12_1 p321 q321
                    cases e321
                    replace hx321_0 := (HB.out.cell (World.block_lt_of_cell? w _ hx321_0)).trans hx321_0
                    replace hx321_1 := (HB.out.cell (World.block_lt_of_cell? w _ hx321_1)).trans hx321_1
                    replace hx321_2 := (HB.out.cell (World.block_lt_of_cell? w _ hx321_2)).trans hx321_2
                    replace hx321_3 := (HB.out.cell (World.block_lt_of_cell? w _ hx321_3)).trans hx321_3
                    replace hx321_4 := (HB.out.cell (World.block_lt_of_cell? w _ hx321_4)).trans hx321_4
                    have HR321_2 := Aside0.mk hi321_2
                    have HC321_2 := Aside0.mk hl321_2
                    clear hi321_2 hl321_2
                    have HR321_3 := Aside0.mk hi321_3
                    have HC321_3 := Aside0.mk hl321_3
                    clear hi321_3 hl321_3
                    have HR321_4 := Aside0.mk hi321_4
                    have HC321_4 := Aside0.mk hl321_4
                    clear hi321_4 hl321_4
                    replace p321 := eq_true p321
                    replace q321 := eq_true q321
                    go_wp2_with (first | ((with_reducible refine gate_dst (N := 9) rfl ?_); refine box_event ?hg (N := 9) ?hd (cs := #[.int .i64 0, .int .i64 0, .slice none 0 0, .slice none 0 0, .slice none 0 0]) (t := 127) ?hr ?_; (case hd => rfl); (case hg => rfl); (case hr => first | (go_simp; done) | (go_simp; rfl)); intro gb322 hg w67 hbox hb; have n0_ := Aside0.mk (Kd.V_below (Kd.V_elderB (by (with_reducible repeat (first | apply Kd.V_alloc | apply Kd.V_drewN | apply Kd.V_drew)); exact HO_1.out) gb322 (Nat.le_of_eq hg.symm)) hb); have n1_ := Aside0.mk (below_step (by repeat (first | (with_reducible first | exact HB.out | apply below_alloc | apply pw_below_drewN | apply below_drew1) | exact HB.out)) hb); have n2_ := Aside0.mk (hbox); have n3_ := Aside0.mk ((by rw [hg]; exact (below_size (by repeat (first | (with_reducible first | exact HB.out | apply below_alloc | apply pw_below_drewN | apply below_drew1) | exact HB.out))) : w.heap.size ≤ gb322)); have n4_ := Aside0.mk ((by rw [hg]; exact (below_size (by repeat (first | (with_reducible first | exact HB.out | apply below_alloc | apply pw_below_drewN | apply below_drew1) | exact HB.out))) : w.heap.size ≤ gb322)); clear HO_1; clear HB; have HO_1 := n0_; have HB := n1_; have BK322 := n2_; have GW322 := n3_; have GE322 := n4_; clear n0_ n1_ n2_ n3_ n4_; clear hb hbox hg; have hcz68_0 : w67.cell? ⟨gb322, 0, none⟩ = some (.int .i64 0) := (blk_cell BK322.out 0).trans rfl; have hcz68_1 : w67.cell? ⟨gb322, 1, none⟩ = some (.int .i64 0) := (blk_cell BK322.out 1).trans rfl; have hcz68_2 : w67.cell? ⟨gb322, 2, none⟩ = some (.slice none 0 0) := (blk_cell BK322.out 2).trans rfl; have hcz68_3 : w67.cell? ⟨gb322, 3, none⟩ = some (.slice none 0 0) := (blk_cell BK322.out 3).trans rfl; have hcz68_4 : w67.cell? ⟨gb322, 4, none⟩ = some (.slice none 0 0) := (blk_cell BK322.out 4).trans rfl; have hfz68_0 := blk_frozen BK322.out 0; have hfz68_1 := blk_frozen BK322.out 1; have hfz68_2 := blk_frozen BK322.out 2; have hfz68_3 := blk_frozen BK322.out 3; have hfz68_4 := blk_frozen BK322.out 4))
                    go_ret2
                    exact ⟨_, by first | rfl | (simp [errW_none, errW_some] <;> rfl) | (simp [*, errW_none, errW_some] <;> rfl), by (with_reducible repeat (first | apply Kd.V_alloc | apply Kd.V_drewN | apply Kd.V_drew)); exact Kd.V_mono (Kd.V_far (p := ⟨gb322, 4, none⟩) (Kd.V_far (p := ⟨gb322, 3, none⟩) (Kd.V_far (p := ⟨gb322, 2, none⟩) (Kd.V_far (p := ⟨gb322, 1, none⟩) (Kd.V_far (p := ⟨gb322, 0, none⟩) (Kd.V_mono HO_1.out (fun k_ hk => (⟨hk, hk.2⟩ : _ ∧ k_ ≠ gb322))) (fun _ hk => hk.2) (.int .i64 ((rd_T127 l0 x12_1).f0))) (fun _ hk => hk.2) (.int .i64 ((rd_T127 l0 x12_1).f1))) (fun _ hk => hk.2) (.slice A321_2 ((rd_T127 l0 x12_1).f2).length c321_2)) (fun _ hk => hk.2) (.slice A321_3 ((rd_T127 l0 x12_1).f3).length c321_3)) (fun _ hk => hk.2) (.slice A321_4 ((rd_T127 l0 x12_1).f4).length c321_4)) (fun _ hk => hk.1.1), by repeat (first | (with_reducible first | exact HB.out | apply below_alloc | apply pw_below_drewN | apply below_drew1 | refine below_set ?_ GE322.out) | exact HB.out)⟩
                  · rw [if_neg c66] at H
                    have c66b0 : decide (x2_1 < 0) = false := decide_eq_false c66
                    clear c66
                    have H' := Aside0.mk H
                    clear H
                    have p321 : 0 ≤ (x12_1 : Int) := of_decide_eq_true (by first | (with_reducible assumption) | assumption)
                    have q321 : x12_1 < (l0.length : Int) := of_decide_eq_true (by first | (with_reducible assumption) | assumption)
                    obtain ⟨ad321, A321_2, c321_2, A321_3, c321_3, A321_4, c321_4, e321, hx321_0, hx321_1, hx321_2, hx321_3, hx321_4, hl321_2, hi321_2, hl321_3, hi321_3, hl321_4, hi321_4⟩ := at_T127 HR0.out x12_1 p321 q321
                    cases e321
                    replace hx321_0 := (HB.out.cell (World.block_lt_of_cell? w _ hx321_0)).trans hx321_0
                    replace hx321_1 := (HB.out.cell (World.block_lt_of_cell? w _ hx321_1)).trans hx321_1
                    replace hx321_2 := (HB.out.cell (World.block_lt_of_cell? w _ hx321_2)).trans hx321_2
                    replace hx321_3 := (HB.out.cell (World.block_lt_of_cell? w _ hx321_3)).trans hx321_3
                    replace hx321_4 := (HB.out.cell (World.block_lt_of_cell? w _ hx321_4)).trans hx321_4
                    have HR321_2 := Aside0.mk hi321_2
                    have HC321_2 := Aside0.mk hl321_2
                    clear hi321_2 hl321_2
                    have HR321_3 := Aside0.mk hi321_3
                    have HC321_3 := Aside0.mk hl321_3
                    clear hi321_3 hl321_3
                    have HR321_4 := Aside0.mk hi321_4
                    have HC321_4 := Aside0.mk hl321_4
                    clear hi321_4 hl321_4
                    replace p321 := eq_true p321
                    replace q321 := eq_true q321
                    go_wp2_with (first | ((with_reducible refine gate_dst (N := 9) rfl ?_); refine box_event ?hg (N := 9) ?hd (cs := #[.int .i64 0, .int .i64 0, .slice none 0 0, .slice none 0 0, .slice none 0 0]) (t := 127) ?hr ?_; (case hd => rfl); (case hg => rfl); (case hr => first | (go_simp; done) | (go_simp; rfl)); intro gb322 hg w69 hbox hb; have n0_ := Aside0.mk (Kd.V_below (Kd.V_elderB (by (with_reducible repeat (first | apply Kd.V_alloc | apply Kd.V_drewN | apply Kd.V_drew)); exact HO_1.out) gb322 (Nat.le_of_eq hg.symm)) hb); have n1_ := Aside0.mk (below_step (by repeat (first | (with_reducible first | exact HB.out | apply below_alloc | apply pw_below_drewN | apply below_drew1) | exact HB.out)) hb); have n2_ := Aside0.mk (hbox); have n3_ := Aside0.mk ((by rw [hg]; exact (below_size (by repeat (first | (with_reducible first | exact HB.out | apply below_alloc | apply pw_below_drewN | apply below_drew1) | exact HB.out))) : w.heap.size ≤ gb322)); have n4_ := Aside0.mk ((by rw [hg]; exact (below_size (by repeat (first | (with_reducible first | exact HB.out | apply below_alloc | apply pw_below_drewN | apply below_drew1) | exact HB.out))) : w.heap.size ≤ gb322)); clear HO_1; clear HB; have HO_1 := n0_; have HB := n1_; have BK322 := n2_; have GW322 := n3_; have GE322 := n4_; clear n0_ n1_ n2_ n3_ n4_; clear hb hbox hg; have hcz70_0 : w69.cell? ⟨gb322, 0, none⟩ = some (.int .i64 0) := (blk_cell BK322.out 0).trans rfl; have hcz70_1 : w69.cell? ⟨gb322, 1, none⟩ = some (.int .i64 0) := (blk_cell BK322.out 1).trans rfl; have hcz70_2 : w69.cell? ⟨gb322, 2, none⟩ = some (.slice none 0 0) := (blk_cell BK322.out 2).trans rfl; have hcz70_3 : w69.cell? ⟨gb322, 3, none⟩ = some (.slice none 0 0) := (blk_cell BK322.out 3).trans rfl; have hcz70_4 : w69.cell? ⟨gb322, 4, none⟩ = some (.slice none 0 0) := (blk_cell BK322.out 4).trans rfl; have hfz70_0 := blk_frozen BK322.out 0; have hfz70_1 := blk_frozen BK322.out 1; have hfz70_2 := blk_frozen BK322.out 2; have hfz70_3 := blk_frozen BK322.out 3; have hfz70_4 := blk_frozen BK322.out 4))
                    go_roundg k1
                    case measure => have := HK1.out; omega
                    case rel => exact ⟨(x1_1), (x2_1), (wrap64 (x12_1 + 1)), (by first | rfl | (simp; done) | (simp [*]; done)), (by first | rfl | (simp; done) | (simp [*]; done)), H', ⟨by have := HK1.out; omega⟩, ⟨by (with_reducible repeat (first | apply Kd.V_alloc | apply Kd.V_drewN | apply Kd.V_drew)); exact Kd.V_mono (Kd.V_far (p := ⟨gb322, 4, none⟩) (Kd.V_far (p := ⟨gb322, 3, none⟩) (Kd.V_far (p := ⟨gb322, 2, none⟩) (Kd.V_far (p := ⟨gb322, 1, none⟩) (Kd.V_far (p := ⟨gb322, 0, none⟩) (Kd.V_mono HO_1.out (fun k_ hk => (⟨hk, hk.2⟩ : _ ∧ k_ ≠ gb322))) (fun _ hk => hk.2) (.int .i64 ((rd_T127 l0 x12_1).f0))) (fun _ hk => hk.2) (.int .i64 ((rd_T127 l0 x12_1).f1))) (fun _ hk => hk.2) (.slice A321_2 ((rd_T127 l0 x12_1).f2).length c321_2)) (fun _ hk => hk.2) (.slice A321_3 ((rd_T127 l0 x12_1).f3).length c321_3)) (fun _ hk => hk.2) (.slice A321_4 ((rd_T127 l0 x12_1).f4).length c321_4)) (fun _ hk => hk.1.1)⟩, ⟨by repeat (first | (with_reducible first | exact HB.out | apply below_alloc | apply pw_below_drewN | apply below_drew1 | refine below_set ?_ GE322.out) | exact HB.out)⟩⟩
          · rw [if_neg c6] at H
            exact absurd H (by simp)
        · rw [if_neg c5] at H
          exact absurd H (by simp)
      · rw [if_neg c4] at H
        have c4b0 : decide (x12_1 < (l0.length : Int)) = false := decide_eq_false c4
        clear c4
        simp only [Option.some.injEq, Prod.mk.injEq] at H
        obtain ⟨rfl, rfl⟩ := H
        go_wp2
        go_ret2
        exact ⟨_, by first | rfl | (simp [errW_none, errW_some] <;> rfl) | (simp [*, errW_none, errW_some] <;> rfl), by (with_reducible repeat (first | apply Kd.V_alloc | apply Kd.V_drewN | apply Kd.V_drew)); exact HO_1.out, by repeat (first | (with_reducible first | exact HB.out | apply below_alloc | apply pw_below_drewN | apply below_drew1) | exact HB.out)⟩
end Go.Proofs.Ytaicamjpcnhjcaa.PA
namespace Go.Proofs.Ytaicamjpcnhjcaa.PA
open Go.RowKit Go.Proofs.YtaicamjpcnhjcaaW.PrintWords Go.Proofs.YtaicamjpcnhjcaaW.PrintLast Go.Proofs.YtaicamjpcnhjcaaW.PrintMore
set_option linter.unusedVariables false
set_option linter.unusedSimpArgs false
mutual
def codemasonlaw_ShapeBuilds.j0 : Nat → Int → List (S79) → List Int → List (S127) → Int → Int → Bool → Option (Bool)
  | 0, _, _, _, _, _, _, _ => none
  | k + 1, x0, x1, x2, x7, x8, x9, x29 => if x29 = true then (codemasonlaw_ShapeBuilds.j1 k x0 x1 x2 x7 x8 1) else (codemasonlaw_ShapeBuilds.j1 k x0 x1 x2 x7 x8 x9)
def codemasonlaw_ShapeBuilds.j1 : Nat → Int → List (S79) → List Int → List (S127) → Int → Int → Option (Bool)
  | 0, _, _, _, _, _, _ => none
  | k + 1, x0, x1, x2, x7, x8, x9 => if x9 = 0 then (if x8 = 0 then ((codemasonref_Right.f k (wrap64 (x0 + 2)) x7).bind fun t345 => (if t345 = true then ((codemasonref_Whiles.f k x7).bind fun t346 => (codemasonlaw_ShapeBuilds.j2 k x0 x1 x2 x7 (decide (t346 > 1)))) else (codemasonlaw_ShapeBuilds.j2 k x0 x1 x2 x7 true))) else (codemasonlaw_ShapeBuilds.j2 k x0 x1 x2 x7 true)) else (if x8 = x9 then (some ((x7.length : Int) == 0)) else (some false))
def codemasonlaw_ShapeBuilds.j2 : Nat → Int → List (S79) → List Int → List (S127) → Bool → Option (Bool)
  | 0, _, _, _, _, _ => none
  | k + 1, x0, x1, x2, x7, x53 => if x53 = true then (some false) else ((codemasonref_HaveCheck.f k x0 x2).bind fun t347 => (if t347 = 0 then ((codemasonref_Goes.f k x1 x2 200).bind fun bt348 => (if bt348.2.2 = true then ((some (([] : List Int) : List Int)).bind fun y355 => (if y355.length + x2.length < 17592186044416 then ((some (y355 ++ x2 : List Int)).bind fun y358 => ((some (([0, 0] : List Int) : List Int)).bind fun y361 => (if y358.length + y361.length < 17592186044416 then ((codemasonref_Shaped.f k x7 (y358 ++ y361) 200).bind fun bt367 => (if bt367.2 ≥ 0 then (if 0 ≤ x0 then (if x0 ≤ (bt367.1.length : Int) then ((codemasonref_Ints.f k (bt367.1.take (x0 : Int).toNat) bt348.1).bind fun t376 => (some t376)) else (none)) else (none)) else (some false))) else (none)))) else (none))) else (some true))) else (some true)))
end
def codemasonlaw_ShapeBuilds.f (k : Nat) (a0 : Int) (l1 : List (S79)) (l2 : List Int) : Option (Bool) := (shape_Build.f a0 l1).bind fun bt340 => ((codemasonref_ProgCheck.f k a0 l1).bind fun t344 => (if t344 = 0 then (codemasonlaw_ShapeBuilds.j0 k a0 l1 l2 bt340.1 bt340.2 t344 (decide (a0 > 4))) else (codemasonlaw_ShapeBuilds.j0 k a0 l1 l2 bt340.1 bt340.2 t344 false)))
theorem codemasonlaw_ShapeBuilds.mono_l : ∀ k, (∀ y0 y1 y2 y3 y4 y5 y6, LeO (codemasonlaw_ShapeBuilds.j0 k y0 y1 y2 y3 y4 y5 y6) (codemasonlaw_ShapeBuilds.j0 (k + 1) y0 y1 y2 y3 y4 y5 y6)) ∧ (∀ y0 y1 y2 y3 y4 y5, LeO (codemasonlaw_ShapeBuilds.j1 k y0 y1 y2 y3 y4 y5) (codemasonlaw_ShapeBuilds.j1 (k + 1) y0 y1 y2 y3 y4 y5)) ∧ (∀ y0 y1 y2 y3 y4, LeO (codemasonlaw_ShapeBuilds.j2 k y0 y1 y2 y3 y4) (codemasonlaw_ShapeBuilds.j2 (k + 1) y0 y1 y2 y3 y4))
  | 0 => ⟨fun _ _ _ _ _ _ _ r h => by simp [codemasonlaw_ShapeBuilds.j0] at h, fun _ _ _ _ _ _ r h => by simp [codemasonlaw_ShapeBuilds.j1] at h, fun _ _ _ _ _ r h => by simp [codemasonlaw_ShapeBuilds.j2] at h⟩
  | k + 1 => by
    obtain ⟨ih0, ih1, ih2⟩ := codemasonlaw_ShapeBuilds.mono_l k
    refine ⟨?_, ?_, ?_⟩
    · intro y0 y1 y2 y3 y4 y5 y6
      unfold codemasonlaw_ShapeBuilds.j0
      repeat' first
      | (with_reducible exact ih0 _ _ _ _ _ _ _)
      | (with_reducible exact ih1 _ _ _ _ _ _)
      | (with_reducible exact ih2 _ _ _ _ _)
      | (with_reducible exact codemasonref_Goes.mono _ _ _ _)
      | (with_reducible exact codemasonref_HaveCheck.mono _ _ _)
      | (with_reducible exact codemasonref_Ints.mono _ _ _)
      | (with_reducible exact codemasonref_ProgCheck.mono _ _ _)
      | (with_reducible exact codemasonref_Right.mono _ _ _)
      | (with_reducible exact codemasonref_Shaped.mono _ _ _ _)
      | (with_reducible exact codemasonref_Whiles.mono _ _)
      | (with_reducible exact LeO.refl _)
      | (with_reducible exact LeO.none _)
      | (with_reducible refine LeO.ite ?_ ?_)
      | (with_reducible refine LeO.bind ?_ (fun _ => ?_))
      | exact ih0 _ _ _ _ _ _ _
      | exact ih1 _ _ _ _ _ _
      | exact ih2 _ _ _ _ _
      | exact codemasonref_Goes.mono _ _ _ _
      | exact codemasonref_HaveCheck.mono _ _ _
      | exact codemasonref_Ints.mono _ _ _
      | exact codemasonref_ProgCheck.mono _ _ _
      | exact codemasonref_Right.mono _ _ _
      | exact codemasonref_Shaped.mono _ _ _ _
      | exact codemasonref_Whiles.mono _ _
      | exact LeO.none _
      | refine LeO.ite ?_ ?_
      | refine LeO.bind ?_ (fun _ => ?_)
    · intro y0 y1 y2 y3 y4 y5
      unfold codemasonlaw_ShapeBuilds.j1
      repeat' first
      | (with_reducible exact ih0 _ _ _ _ _ _ _)
      | (with_reducible exact ih1 _ _ _ _ _ _)
      | (with_reducible exact ih2 _ _ _ _ _)
      | (with_reducible exact codemasonref_Goes.mono _ _ _ _)
      | (with_reducible exact codemasonref_HaveCheck.mono _ _ _)
      | (with_reducible exact codemasonref_Ints.mono _ _ _)
      | (with_reducible exact codemasonref_ProgCheck.mono _ _ _)
      | (with_reducible exact codemasonref_Right.mono _ _ _)
      | (with_reducible exact codemasonref_Shaped.mono _ _ _ _)
      | (with_reducible exact codemasonref_Whiles.mono _ _)
      | (with_reducible exact LeO.refl _)
      | (with_reducible exact LeO.none _)
      | (with_reducible refine LeO.ite ?_ ?_)
      | (with_reducible refine LeO.bind ?_ (fun _ => ?_))
      | exact ih0 _ _ _ _ _ _ _
      | exact ih1 _ _ _ _ _ _
      | exact ih2 _ _ _ _ _
      | exact codemasonref_Goes.mono _ _ _ _
      | exact codemasonref_HaveCheck.mono _ _ _
      | exact codemasonref_Ints.mono _ _ _
      | exact codemasonref_ProgCheck.mono _ _ _
      | exact codemasonref_Right.mono _ _ _
      | exact codemasonref_Shaped.mono _ _ _ _
      | exact codemasonref_Whiles.mono _ _
      | exact LeO.none _
      | refine LeO.ite ?_ ?_
      | refine LeO.bind ?_ (fun _ => ?_)
    · intro y0 y1 y2 y3 y4
      unfold codemasonlaw_ShapeBuilds.j2
      repeat' first
      | (with_reducible exact ih0 _ _ _ _ _ _ _)
      | (with_reducible exact ih1 _ _ _ _ _ _)
      | (with_reducible exact ih2 _ _ _ _ _)
      | (with_reducible exact codemasonref_Goes.mono _ _ _ _)
      | (with_reducible exact codemasonref_HaveCheck.mono _ _ _)
      | (with_reducible exact codemasonref_Ints.mono _ _ _)
      | (with_reducible exact codemasonref_ProgCheck.mono _ _ _)
      | (with_reducible exact codemasonref_Right.mono _ _ _)
      | (with_reducible exact codemasonref_Shaped.mono _ _ _ _)
      | (with_reducible exact codemasonref_Whiles.mono _ _)
      | (with_reducible exact LeO.refl _)
      | (with_reducible exact LeO.none _)
      | (with_reducible refine LeO.ite ?_ ?_)
      | (with_reducible refine LeO.bind ?_ (fun _ => ?_))
      | exact ih0 _ _ _ _ _ _ _
      | exact ih1 _ _ _ _ _ _
      | exact ih2 _ _ _ _ _
      | exact codemasonref_Goes.mono _ _ _ _
      | exact codemasonref_HaveCheck.mono _ _ _
      | exact codemasonref_Ints.mono _ _ _
      | exact codemasonref_ProgCheck.mono _ _ _
      | exact codemasonref_Right.mono _ _ _
      | exact codemasonref_Shaped.mono _ _ _ _
      | exact codemasonref_Whiles.mono _ _
      | exact LeO.none _
      | refine LeO.ite ?_ ?_
      | refine LeO.bind ?_ (fun _ => ?_)
theorem codemasonlaw_ShapeBuilds.mono : ∀ a0 a1 a2 k, LeO (codemasonlaw_ShapeBuilds.f k a0 a1 a2) (codemasonlaw_ShapeBuilds.f (k + 1) a0 a1 a2) := by
  intro a0 a1 a2 k
  obtain ⟨ih0, ih1, ih2⟩ := codemasonlaw_ShapeBuilds.mono_l k
  unfold codemasonlaw_ShapeBuilds.f
  repeat' first
      | (with_reducible exact ih0 _ _ _ _ _ _ _)
      | (with_reducible exact ih1 _ _ _ _ _ _)
      | (with_reducible exact ih2 _ _ _ _ _)
      | (with_reducible exact codemasonref_Goes.mono _ _ _ _)
      | (with_reducible exact codemasonref_HaveCheck.mono _ _ _)
      | (with_reducible exact codemasonref_Ints.mono _ _ _)
      | (with_reducible exact codemasonref_ProgCheck.mono _ _ _)
      | (with_reducible exact codemasonref_Right.mono _ _ _)
      | (with_reducible exact codemasonref_Shaped.mono _ _ _ _)
      | (with_reducible exact codemasonref_Whiles.mono _ _)
      | (with_reducible exact LeO.refl _)
      | (with_reducible exact LeO.none _)
      | (with_reducible refine LeO.ite ?_ ?_)
      | (with_reducible refine LeO.bind ?_ (fun _ => ?_))
      | exact ih0 _ _ _ _ _ _ _
      | exact ih1 _ _ _ _ _ _
      | exact ih2 _ _ _ _ _
      | exact codemasonref_Goes.mono _ _ _ _
      | exact codemasonref_HaveCheck.mono _ _ _
      | exact codemasonref_Ints.mono _ _ _
      | exact codemasonref_ProgCheck.mono _ _ _
      | exact codemasonref_Right.mono _ _ _
      | exact codemasonref_Shaped.mono _ _ _ _
      | exact codemasonref_Whiles.mono _ _
      | exact LeO.none _
      | refine LeO.ite ?_ ?_
      | refine LeO.bind ?_ (fun _ => ?_)
set_option maxHeartbeats 8000000 in
set_option maxRecDepth 100000 in
theorem codemasonlaw_ShapeBuilds.calls (k : Nat) (a0 : Int) (A1 : Option Addr) (c1 : Nat) (l1 : List (S79)) (A2 : Option Addr) (c2 : Nat) (l2 : List Int) (r : Bool) (w : World) (hr1 : Kd.C k79 w A1 l1.length l1) (hc1 : l1.length ≤ c1) (hr2 : Kd.C (Kd.int .i64) w A2 l2.length l2) (hc2 : l2.length ≤ c2) (h : codemasonlaw_ShapeBuilds.f k a0 l1 l2 = some r) :
    Calls Try.prog 5 #[.int .i64 a0, .slice A1 l1.length c1, .slice A2 l2.length c2] w fun e w' => e = .returned (.bool r) ∧ Below w.heap.size w w' := by
  have HR1 := Aside0.mk hr1
  have HC1 := Aside0.mk hc1
  clear hr1 hc1
  have HR2 := Aside0.mk hr2
  have HC2 := Aside0.mk hc2
  clear hr2 hc2
  have HB := Aside0.mk (Below.refl w.heap.size w)
  have H : ((shape_Build.f a0 l1).bind fun bt340 => ((codemasonref_ProgCheck.f k a0 l1).bind fun t344 => (if t344 = 0 then (codemasonlaw_ShapeBuilds.j0 k a0 l1 l2 bt340.1 bt340.2 t344 (decide (a0 > 4))) else (codemasonlaw_ShapeBuilds.j0 k a0 l1 l2 bt340.1 bt340.2 t344 false)))) = some r := h
  clear h
  replace H := Option.bind_eq_some_iff.mp H
  obtain ⟨⟨t340, t341⟩, A40, H⟩ := H
  replace H : ((codemasonref_ProgCheck.f k a0 l1).bind fun t344 => (if t344 = 0 then (codemasonlaw_ShapeBuilds.j0 k a0 l1 l2 t340 t341 t344 (decide (a0 > 4))) else (codemasonlaw_ShapeBuilds.j0 k a0 l1 l2 t340 t341 t344 false))) = some r := H
  have A4 := Aside0.mk A40
  clear A40
  replace H := Option.bind_eq_some_iff.mp H
  obtain ⟨t344, A50, H⟩ := H
  replace H : (if t344 = 0 then (codemasonlaw_ShapeBuilds.j0 k a0 l1 l2 t340 t341 t344 (decide (a0 > 4))) else (codemasonlaw_ShapeBuilds.j0 k a0 l1 l2 t340 t341 t344 false)) = some r := H
  have A5 := Aside0.mk A50
  clear A50
  have HC6 := Aside0.mk H
  clear H
  go_enter Try.func5, Try.ntmps5
  go_upto_region 3 with (first | ((with_reducible refine gate_callee (f := 30) rfl ?_); refine goesL_ (some 18) rfl rfl Try.func30 (by kernel_rfl) rfl #[.int .i64 a0, .slice A1 l1.length c1] rfl (by (try simp only [List.map_toArray, List.map_cons, List.map_nil]); first | done | rfl | (simp only [List.length_drop, List.length_take]; rfl)) ?_; (with_reducible refine (shape_Build.calls a0 _ _ l1 t340 t341 _ ?side1 ?side2 A4.out).mono ?_); (case side1 => repeat (first | exact HR1.out | (with_reducible refine Kd.C_alloc ?_ _) | (with_reducible refine Kd.C_drewN ?_ _) | (with_reducible refine Kd.C_drew ?_))); (case side2 => exact HC1.out); rintro e w7 ⟨v342, rfl, ho0, hb⟩; refine ⟨_, rfl, ?_⟩; have n0_ := Aside0.mk (Kd.R_lower ho0 (below_size (by repeat (first | (with_reducible first | exact HB.out | apply below_alloc | apply pw_below_drewN | apply below_drew1) | exact HB.out)))); have n1_ := Aside0.mk (below_step (by repeat (first | (with_reducible first | exact HB.out | apply below_alloc | apply pw_below_drewN | apply below_drew1) | exact HB.out)) hb); clear HB; have HO343 := n0_; have HB := n1_; clear n0_ n1_; (try clear hb); (try clear hb2); (try clear hk); (try clear hi); (try clear ho0)) | ((with_reducible refine gate_callee (f := 22) rfl ?_); refine goesL_ (some 23) rfl rfl Try.func22 (by kernel_rfl) rfl #[.int .i64 a0, .slice A1 l1.length c1] rfl (by (try simp only [List.map_toArray, List.map_cons, List.map_nil]); first | done | rfl | (simp only [List.length_drop, List.length_take]; rfl)) ?_; (with_reducible refine (codemasonref_ProgCheck.calls k a0 _ _ l1 t344 _ ?side1 ?side2 A5.out).mono ?_); (case side1 => repeat (first | exact (Kd.C_below HR1.out HB.out) | (with_reducible refine Kd.C_alloc ?_ _) | (with_reducible refine Kd.C_drewN ?_ _) | (with_reducible refine Kd.C_drew ?_))); (case side2 => exact HC1.out); rintro e w8 ⟨rfl, hb⟩; refine ⟨_, rfl, ?_⟩; have n0_ := Aside0.mk (Kd.R_below (by (with_reducible repeat (first | apply Kd.R_alloc | apply Kd.R_drewN | apply Kd.R_drew)); exact HO343.out) hb); have n1_ := Aside0.mk (below_step (by repeat (first | (with_reducible first | exact HB.out | apply below_alloc | apply pw_below_drewN | apply below_drew1) | exact HB.out)) hb); clear HO343; clear HB; have HO343 := n0_; have HB := n1_; clear n0_ n1_; (try clear hb); (try clear hb2); (try clear hk); (try clear hi)))
  (try simp only [Act.put, List.setIfInBounds_toArray, List.set_cons_zero, List.set_cons_succ])
  go_cut [29] (fun v29 wc => ∃ (kq : Nat) (x29_5 : Bool), v29 = .bool x29_5 ∧ Aside0 (codemasonlaw_ShapeBuilds.j0 kq a0 l1 l2 t340 t341 t344 x29_5 = some r) ∧ Aside0 (kq ≤ k) ∧ Aside0 (Kd.R k127 127 wc w.heap.size (fun _ => True) v342 t340) ∧ Aside0 (Below w.heap.size w wc))
  case first =>
    have H := HC6.out
    clear HC6
    by_cases c9 : t344 = 0
    · rw [if_pos c9] at H
      have c9b0 : (t344 == 0) = true := beq_iff_eq.mpr c9
      have c9b1 : (t344 != 0) = false := bne_eq_false_iff_eq.mpr c9
      clear c9
      (first | rw [c9b0] | (simp only [i64_w, i32_w]; rw [c9b0]) | skip)
      have H' := Aside0.mk H
      clear H
      go_wp2
      go_meet
      case rel => exact ⟨_, (decide (a0 > 4)), (by first | rfl | (simp; done) | (simp [*]; done)), H', ⟨by first | omega | exact Nat.le_refl _⟩, ⟨by (with_reducible repeat (first | apply Kd.R_alloc | apply Kd.R_drewN | apply Kd.R_drew)); exact HO343.out⟩, ⟨by repeat (first | (with_reducible first | exact HB.out | apply below_alloc | apply pw_below_drewN | apply below_drew1) | exact HB.out)⟩⟩
    · rw [if_neg c9] at H
      have c9b0 : (t344 == 0) = false := beq_eq_false_iff_ne.mpr c9
      have c9b1 : (t344 != 0) = true := bne_iff_ne.mpr c9
      (first | rw [c9b0] | (simp only [i64_w, i32_w]; rw [c9b0]) | skip)
      have H' := Aside0.mk H
      clear H
      go_wp2
      go_meet
      case rel => exact ⟨_, (false), (by first | rfl | (simp; done) | (simp [*]; done)), H', ⟨by first | omega | exact Nat.le_refl _⟩, ⟨by (with_reducible repeat (first | apply Kd.R_alloc | apply Kd.R_drewN | apply Kd.R_drew)); exact HO343.out⟩, ⟨by repeat (first | (with_reducible first | exact HB.out | apply below_alloc | apply pw_below_drewN | apply below_drew1) | exact HB.out)⟩⟩
  case rest =>
    clear HC6
    try clear c1
    try clear c2
    try clear p2
    try clear c3
    try clear c5
    try clear c9
    try clear c9b0
    try clear c9b1
    obtain ⟨kq, x29_5, rfl, HA, HJ5, HO_7, HB⟩ := hcut
    cases kq with
    | zero => exact absurd HA.out (by simp [codemasonlaw_ShapeBuilds.j0])
    | succ kj5 =>
      have H := HA.out
      clear HA
      simp only [codemasonlaw_ShapeBuilds.j0] at H
      have HC10 := Aside0.mk H
      clear H
      go_upto_if 29 with (fail)
      go_cut [9] (fun v9 wc => ∃ (kq : Nat) (x9_9 : Int), v9 = .int .i64 x9_9 ∧ Aside0 (codemasonlaw_ShapeBuilds.j1 kq a0 l1 l2 t340 t341 x9_9 = some r) ∧ Aside0 (kq ≤ kj5) ∧ Aside0 (Kd.R k127 127 wc w.heap.size (fun _ => True) v342 t340) ∧ Aside0 (Below w.heap.size w wc))
      case first =>
        have H := HC10.out
        clear HC10
        by_cases c11 : x29_5 = true
        · subst c11
          have H1 : (codemasonlaw_ShapeBuilds.j1 kj5 a0 l1 l2 t340 t341 1) = some r := by rw [if_pos rfl] at H; exact H
          clear H
          have H := H1
          clear H1
          have H' := Aside0.mk H
          clear H
          go_wp2
          go_meet
          case rel => exact ⟨_, (1), (by first | rfl | (simp; done) | (simp [*]; done)), H', ⟨by have := HJ5.out; first | omega | exact Nat.le_refl _⟩, ⟨by (with_reducible repeat (first | apply Kd.R_alloc | apply Kd.R_drewN | apply Kd.R_drew)); exact HO_7.out⟩, ⟨by repeat (first | (with_reducible first | exact HB.out | apply below_alloc | apply pw_below_drewN | apply below_drew1) | exact HB.out)⟩⟩
        · replace c11 := Bool.eq_false_iff.mpr c11
          subst c11
          have H1 : (codemasonlaw_ShapeBuilds.j1 kj5 a0 l1 l2 t340 t341 t344) = some r := by rw [if_neg (show ¬ (false = true) by decide)] at H; exact H
          clear H
          have H := H1
          clear H1
          have H' := Aside0.mk H
          clear H
          go_wp2
          go_meet
          case rel => exact ⟨_, (t344), (by first | rfl | (simp; done) | (simp [*]; done)), H', ⟨by have := HJ5.out; first | omega | exact Nat.le_refl _⟩, ⟨by (with_reducible repeat (first | apply Kd.R_alloc | apply Kd.R_drewN | apply Kd.R_drew)); exact HO_7.out⟩, ⟨by repeat (first | (with_reducible first | exact HB.out | apply below_alloc | apply pw_below_drewN | apply below_drew1) | exact HB.out)⟩⟩
      case rest =>
        clear HC10
        try clear c1
        try clear c2
        try clear p2
        try clear c3
        try clear c5
        try clear c9
        try clear c9b0
        try clear c9b1
        try clear c11
        try clear p2
        obtain ⟨kq, x9_9, rfl, HA, HJ9, HO_7, HB⟩ := hcut
        cases kq with
        | zero => exact absurd HA.out (by simp [codemasonlaw_ShapeBuilds.j1])
        | succ kj9 =>
          have H := HA.out
          clear HA
          simp only [codemasonlaw_ShapeBuilds.j1] at H
          by_cases c12 : x9_9 = 0
          · rw [if_pos c12] at H
            have c12b0 : (x9_9 == 0) = true := beq_iff_eq.mpr c12
            have c12b1 : (x9_9 != 0) = false := bne_eq_false_iff_eq.mpr c12
            clear c12
            have HC13 := Aside0.mk H
            clear H
            go_upto_region 7 with (fail)
            go_cut [53] (fun v53 wc => ∃ (kq : Nat) (x53_12 : Bool), v53 = .bool x53_12 ∧ Aside0 (codemasonlaw_ShapeBuilds.j2 kq a0 l1 l2 t340 x53_12 = some r) ∧ Aside0 (kq ≤ kj9) ∧ Aside0 (Kd.R k127 127 wc w.heap.size (fun _ => True) v342 t340) ∧ Aside0 (Below w.heap.size w wc))
            case first =>
              have H := HC13.out
              clear HC13
              by_cases c14 : t341 = 0
              · rw [if_pos c14] at H
                have c14b0 : (t341 == 0) = true := beq_iff_eq.mpr c14
                have c14b1 : (t341 != 0) = false := bne_eq_false_iff_eq.mpr c14
                clear c14
                (first | rw [c14b0] | (simp only [i64_w, i32_w]; rw [c14b0]) | skip)
                replace H := Option.bind_eq_some_iff.mp H
                obtain ⟨t345, A150, H⟩ := H
                replace H : (if t345 = true then ((codemasonref_Whiles.f kj9 t340).bind fun t346 => (codemasonlaw_ShapeBuilds.j2 kj9 a0 l1 l2 t340 (decide (t346 > 1)))) else (codemasonlaw_ShapeBuilds.j2 kj9 a0 l1 l2 t340 true)) = some r := H
                have A15 := Aside0.mk A150
                clear A150
                by_cases c16 : t345 = true
                · subst c16
                  have H1 : ((codemasonref_Whiles.f kj9 t340).bind fun t346 => (codemasonlaw_ShapeBuilds.j2 kj9 a0 l1 l2 t340 (decide (t346 > 1)))) = some r := by rw [if_pos rfl] at H; exact H
                  clear H
                  have H := H1
                  clear H1
                  replace H := Option.bind_eq_some_iff.mp H
                  obtain ⟨t346, A170, H⟩ := H
                  replace H : (codemasonlaw_ShapeBuilds.j2 kj9 a0 l1 l2 t340 (decide (t346 > 1))) = some r := H
                  have A17 := Aside0.mk A170
                  clear A170
                  have H' := Aside0.mk H
                  clear H
                  obtain ⟨Ao18, co18, eo18⟩ := Kd.R_slice HO_7.out
                  subst eo18
                  go_wp2_with (first | (go_at_call 31; (with_reducible refine (codemasonref_Right.calls kj9 (wrap64 (a0 + 2)) _ _ t340 true _ ?side1 ?side2 A15.out).mono ?_); (case side1 => repeat (first | exact (Kd.R_reads' HO_7.out).2.2 | (with_reducible refine Kd.C_alloc ?_ _) | (with_reducible refine Kd.C_drewN ?_ _) | (with_reducible refine Kd.C_drew ?_))); (case side2 => exact (Kd.R_reads' HO_7.out).2.1); rintro e w19 ⟨rfl, hb⟩; have n0_ := Aside0.mk (Kd.R_below (by (with_reducible repeat (first | apply Kd.R_alloc | apply Kd.R_drewN | apply Kd.R_drew)); exact HO_7.out) hb); have n1_ := Aside0.mk (below_step (by repeat (first | (with_reducible first | exact HB.out | apply below_alloc | apply pw_below_drewN | apply below_drew1) | exact HB.out)) hb); clear HO_7; clear HB; have HO_7 := n0_; have HB := n1_; clear n0_ n1_; (try clear hb); (try clear hb2); (try clear hk); (try clear hi)) | (go_at_call 32; (with_reducible refine (codemasonref_Whiles.calls kj9 _ _ t340 t346 _ ?side1 ?side2 A17.out).mono ?_); (case side1 => repeat (first | exact (Kd.R_reads' HO_7.out).2.2 | (with_reducible refine Kd.C_alloc ?_ _) | (with_reducible refine Kd.C_drewN ?_ _) | (with_reducible refine Kd.C_drew ?_))); (case side2 => exact (Kd.R_reads' HO_7.out).2.1); rintro e w20 ⟨rfl, hb⟩; have n0_ := Aside0.mk (Kd.R_below (by (with_reducible repeat (first | apply Kd.R_alloc | apply Kd.R_drewN | apply Kd.R_drew)); exact HO_7.out) hb); have n1_ := Aside0.mk (below_step (by repeat (first | (with_reducible first | exact HB.out | apply below_alloc | apply pw_below_drewN | apply below_drew1) | exact HB.out)) hb); clear HO_7; clear HB; have HO_7 := n0_; have HB := n1_; clear n0_ n1_; (try clear hb); (try clear hb2); (try clear hk); (try clear hi)))
                  go_meet
                  case rel => exact ⟨_, (decide (t346 > 1)), (by first | rfl | (simp; done) | (simp [*]; done)), H', ⟨by have := HJ5.out; have := HJ9.out; first | omega | exact Nat.le_refl _⟩, ⟨by (with_reducible repeat (first | apply Kd.R_alloc | apply Kd.R_drewN | apply Kd.R_drew)); exact HO_7.out⟩, ⟨by repeat (first | (with_reducible first | exact HB.out | apply below_alloc | apply pw_below_drewN | apply below_drew1) | exact HB.out)⟩⟩
                · replace c16 := Bool.eq_false_iff.mpr c16
                  subst c16
                  have H1 : (codemasonlaw_ShapeBuilds.j2 kj9 a0 l1 l2 t340 true) = some r := by rw [if_neg (show ¬ (false = true) by decide)] at H; exact H
                  clear H
                  have H := H1
                  clear H1
                  have H' := Aside0.mk H
                  clear H
                  obtain ⟨Ao21, co21, eo21⟩ := Kd.R_slice HO_7.out
                  subst eo21
                  go_wp2_with (first | (go_at_call 31; (with_reducible refine (codemasonref_Right.calls kj9 (wrap64 (a0 + 2)) _ _ t340 false _ ?side1 ?side2 A15.out).mono ?_); (case side1 => repeat (first | exact (Kd.R_reads' HO_7.out).2.2 | (with_reducible refine Kd.C_alloc ?_ _) | (with_reducible refine Kd.C_drewN ?_ _) | (with_reducible refine Kd.C_drew ?_))); (case side2 => exact (Kd.R_reads' HO_7.out).2.1); rintro e w22 ⟨rfl, hb⟩; have n0_ := Aside0.mk (Kd.R_below (by (with_reducible repeat (first | apply Kd.R_alloc | apply Kd.R_drewN | apply Kd.R_drew)); exact HO_7.out) hb); have n1_ := Aside0.mk (below_step (by repeat (first | (with_reducible first | exact HB.out | apply below_alloc | apply pw_below_drewN | apply below_drew1) | exact HB.out)) hb); clear HO_7; clear HB; have HO_7 := n0_; have HB := n1_; clear n0_ n1_; (try clear hb); (try clear hb2); (try clear hk); (try clear hi)))
                  go_meet
                  case rel => exact ⟨_, (true), (by first | rfl | (simp; done) | (simp [*]; done)), H', ⟨by have := HJ5.out; have := HJ9.out; first | omega | exact Nat.le_refl _⟩, ⟨by (with_reducible repeat (first | apply Kd.R_alloc | apply Kd.R_drewN | apply Kd.R_drew)); exact HO_7.out⟩, ⟨by repeat (first | (with_reducible first | exact HB.out | apply below_alloc | apply pw_below_drewN | apply below_drew1) | exact HB.out)⟩⟩
              · rw [if_neg c14] at H
                have c14b0 : (t341 == 0) = false := beq_eq_false_iff_ne.mpr c14
                have c14b1 : (t341 != 0) = true := bne_iff_ne.mpr c14
                (first | rw [c14b0] | (simp only [i64_w, i32_w]; rw [c14b0]) | skip)
                have H' := Aside0.mk H
                clear H
                go_wp2
                go_meet
                case rel => exact ⟨_, (true), (by first | rfl | (simp; done) | (simp [*]; done)), H', ⟨by have := HJ5.out; have := HJ9.out; first | omega | exact Nat.le_refl _⟩, ⟨by (with_reducible repeat (first | apply Kd.R_alloc | apply Kd.R_drewN | apply Kd.R_drew)); exact HO_7.out⟩, ⟨by repeat (first | (with_reducible first | exact HB.out | apply below_alloc | apply pw_below_drewN | apply below_drew1) | exact HB.out)⟩⟩
            case rest =>
              clear HC13
              try clear c1
              try clear c2
              try clear p2
              try clear c3
              try clear c5
              try clear p6
              try clear c9
              try clear c9b0
              try clear c9b1
              try clear c11
              try clear c12
              try clear c12b0
              try clear c12b1
              try clear c14
              try clear c14b0
              try clear c14b1
              try clear c16
              try clear c22
              try clear p2
              obtain ⟨kq, x53_12, rfl, HA, HJ12, HO_7, HB⟩ := hcut
              cases kq with
              | zero => exact absurd HA.out (by simp [codemasonlaw_ShapeBuilds.j2])
              | succ kj12 =>
                have H := HA.out
                clear HA
                simp only [codemasonlaw_ShapeBuilds.j2] at H
                by_cases c23 : x53_12 = true
                · subst c23
                  have H1 : (some false) = some r := by rw [if_pos rfl] at H; exact H
                  clear H
                  have H := H1
                  clear H1
                  obtain rfl := Option.some.inj H
                  go_wp2
                  go_ret
                  exact ⟨by first | rfl | (simp [errW_none, errW_some] <;> rfl) | (simp [*, errW_none, errW_some] <;> rfl), by repeat (first | (with_reducible first | exact HB.out | apply below_alloc | apply pw_below_drewN | apply below_drew1) | exact HB.out)⟩
                · replace c23 := Bool.eq_false_iff.mpr c23
                  subst c23
                  have H1 : ((codemasonref_HaveCheck.f kj12 a0 l2).bind fun t347 => (if t347 = 0 then ((codemasonref_Goes.f kj12 l1 l2 200).bind fun bt348 => (if bt348.2.2 = true then ((some (([] : List Int) : List Int)).bind fun y355 => (if y355.length + l2.length < 17592186044416 then ((some (y355 ++ l2 : List Int)).bind fun y358 => ((some (([0, 0] : List Int) : List Int)).bind fun y361 => (if y358.length + y361.length < 17592186044416 then ((codemasonref_Shaped.f kj12 t340 (y358 ++ y361) 200).bind fun bt367 => (if bt367.2 ≥ 0 then (if 0 ≤ a0 then (if a0 ≤ (bt367.1.length : Int) then ((codemasonref_Ints.f kj12 (bt367.1.take (a0 : Int).toNat) bt348.1).bind fun t376 => (some t376)) else (none)) else (none)) else (some false))) else (none)))) else (none))) else (some true))) else (some true))) = some r := by rw [if_neg (show ¬ (false = true) by decide)] at H; exact H
                  clear H
                  have H := H1
                  clear H1
                  replace H := Option.bind_eq_some_iff.mp H
                  obtain ⟨t347, A240, H⟩ := H
                  replace H : (if t347 = 0 then ((codemasonref_Goes.f kj12 l1 l2 200).bind fun bt348 => (if bt348.2.2 = true then ((some (([] : List Int) : List Int)).bind fun y355 => (if y355.length + l2.length < 17592186044416 then ((some (y355 ++ l2 : List Int)).bind fun y358 => ((some (([0, 0] : List Int) : List Int)).bind fun y361 => (if y358.length + y361.length < 17592186044416 then ((codemasonref_Shaped.f kj12 t340 (y358 ++ y361) 200).bind fun bt367 => (if bt367.2 ≥ 0 then (if 0 ≤ a0 then (if a0 ≤ (bt367.1.length : Int) then ((codemasonref_Ints.f kj12 (bt367.1.take (a0 : Int).toNat) bt348.1).bind fun t376 => (some t376)) else (none)) else (none)) else (some false))) else (none)))) else (none))) else (some true))) else (some true)) = some r := H
                  have A24 := Aside0.mk A240
                  clear A240
                  by_cases c25 : t347 = 0
                  · rw [if_pos c25] at H
                    have c25b0 : (t347 == 0) = true := beq_iff_eq.mpr c25
                    have c25b1 : (t347 != 0) = false := bne_eq_false_iff_eq.mpr c25
                    clear c25
                    replace H := Option.bind_eq_some_iff.mp H
                    obtain ⟨⟨t348, t351, t354⟩, A260, H⟩ := H
                    replace H : (if t354 = true then ((some (([] : List Int) : List Int)).bind fun y355 => (if y355.length + l2.length < 17592186044416 then ((some (y355 ++ l2 : List Int)).bind fun y358 => ((some (([0, 0] : List Int) : List Int)).bind fun y361 => (if y358.length + y361.length < 17592186044416 then ((codemasonref_Shaped.f kj12 t340 (y358 ++ y361) 200).bind fun bt367 => (if bt367.2 ≥ 0 then (if 0 ≤ a0 then (if a0 ≤ (bt367.1.length : Int) then ((codemasonref_Ints.f kj12 (bt367.1.take (a0 : Int).toNat) t348).bind fun t376 => (some t376)) else (none)) else (none)) else (some false))) else (none)))) else (none))) else (some true)) = some r := H
                    have A26 := Aside0.mk A260
                    clear A260
                    by_cases c27 : t354 = true
                    · subst c27
                      have H1 : ((some (([] : List Int) : List Int)).bind fun y355 => (if y355.length + l2.length < 17592186044416 then ((some (y355 ++ l2 : List Int)).bind fun y358 => ((some (([0, 0] : List Int) : List Int)).bind fun y361 => (if y358.length + y361.length < 17592186044416 then ((codemasonref_Shaped.f kj12 t340 (y358 ++ y361) 200).bind fun bt367 => (if bt367.2 ≥ 0 then (if 0 ≤ a0 then (if a0 ≤ (bt367.1.length : Int) then ((codemasonref_Ints.f kj12 (bt367.1.take (a0 : Int).toNat) t348).bind fun t376 => (some t376)) else (none)) else (none)) else (some false))) else (none)))) else (none))) = some r := by rw [if_pos rfl] at H; exact H
                      clear H
                      have H := H1
                      clear H1
                      obtain ⟨y355, hy355⟩ : ∃ y_ : List Int, y_ = (([] : List Int)) := ⟨_, rfl⟩
                      replace H : (if y355.length + l2.length < 17592186044416 then ((some (y355 ++ l2 : List Int)).bind fun y358 => ((some (([0, 0] : List Int) : List Int)).bind fun y361 => (if y358.length + y361.length < 17592186044416 then ((codemasonref_Shaped.f kj12 t340 (y358 ++ y361) 200).bind fun bt367 => (if bt367.2 ≥ 0 then (if 0 ≤ a0 then (if a0 ≤ (bt367.1.length : Int) then ((codemasonref_Ints.f kj12 (bt367.1.take (a0 : Int).toNat) t348).bind fun t376 => (some t376)) else (none)) else (none)) else (some false))) else (none)))) else (none)) = some r := by first | (rw [hy355]; with_reducible exact H) | (have H2_ := (Option.bind_some _ _).symm.trans H; rw [hy355]; with_reducible exact H2_) | (have H2_ := (Option.bind_some _ _).symm.trans H; with_reducible exact H2_) | with_reducible exact H | (rw [hy355]; exact H) | exact H
                      have Ny355 := Aside0.mk hy355
                      clear hy355
                      by_cases c28 : y355.length + l2.length < 17592186044416
                      · rw [if_pos c28] at H
                        have LMc28 := Aside0.mk c28
                        clear c28
                        obtain ⟨y358, hy358⟩ : ∃ y_ : List Int, y_ = (y355 ++ l2) := ⟨_, rfl⟩
                        replace H : ((some (([0, 0] : List Int) : List Int)).bind fun y361 => (if y358.length + y361.length < 17592186044416 then ((codemasonref_Shaped.f kj12 t340 (y358 ++ y361) 200).bind fun bt367 => (if bt367.2 ≥ 0 then (if 0 ≤ a0 then (if a0 ≤ (bt367.1.length : Int) then ((codemasonref_Ints.f kj12 (bt367.1.take (a0 : Int).toNat) t348).bind fun t376 => (some t376)) else (none)) else (none)) else (some false))) else (none))) = some r := by first | (rw [hy358]; with_reducible exact H) | (have H2_ := (Option.bind_some _ _).symm.trans H; rw [hy358]; with_reducible exact H2_) | (have H2_ := (Option.bind_some _ _).symm.trans H; with_reducible exact H2_) | with_reducible exact H | (rw [hy358]; exact H) | exact H
                        have Ny358 := Aside0.mk hy358
                        clear hy358
                        obtain ⟨y361, hy361⟩ : ∃ y_ : List Int, y_ = (([0, 0] : List Int)) := ⟨_, rfl⟩
                        replace H : (if y358.length + y361.length < 17592186044416 then ((codemasonref_Shaped.f kj12 t340 (y358 ++ y361) 200).bind fun bt367 => (if bt367.2 ≥ 0 then (if 0 ≤ a0 then (if a0 ≤ (bt367.1.length : Int) then ((codemasonref_Ints.f kj12 (bt367.1.take (a0 : Int).toNat) t348).bind fun t376 => (some t376)) else (none)) else (none)) else (some false))) else (none)) = some r := by first | (rw [hy361]; with_reducible exact H) | (have H2_ := (Option.bind_some _ _).symm.trans H; rw [hy361]; with_reducible exact H2_) | (have H2_ := (Option.bind_some _ _).symm.trans H; with_reducible exact H2_) | with_reducible exact H | (rw [hy361]; exact H) | exact H
                        have Ny361 := Aside0.mk hy361
                        clear hy361
                        by_cases c29 : y358.length + y361.length < 17592186044416
                        · rw [if_pos c29] at H
                          have LMc29 := Aside0.mk c29
                          clear c29
                          obtain ⟨y364, hy364⟩ : ∃ y_ : List Int, y_ = (y358 ++ y361) := ⟨_, rfl⟩
                          replace H : ((codemasonref_Shaped.f kj12 t340 y364 200).bind fun bt367 => (if bt367.2 ≥ 0 then (if 0 ≤ a0 then (if a0 ≤ (bt367.1.length : Int) then ((codemasonref_Ints.f kj12 (bt367.1.take (a0 : Int).toNat) t348).bind fun t376 => (some t376)) else (none)) else (none)) else (some false))) = some r := by first | (rw [hy364]; with_reducible exact H) | (have H2_ := (Option.bind_some _ _).symm.trans H; rw [hy364]; with_reducible exact H2_) | (have H2_ := (Option.bind_some _ _).symm.trans H; with_reducible exact H2_) | with_reducible exact H | (rw [hy364]; exact H) | exact H
                          have Ny364 := Aside0.mk hy364
                          clear hy364
                          replace H := Option.bind_eq_some_iff.mp H
                          obtain ⟨⟨t367, t370⟩, A300, H⟩ := H
                          replace H : (if t370 ≥ 0 then (if 0 ≤ a0 then (if a0 ≤ (t367.length : Int) then ((codemasonref_Ints.f kj12 (t367.take (a0 : Int).toNat) t348).bind fun t376 => (some t376)) else (none)) else (none)) else (some false)) = some r := H
                          have A30 := Aside0.mk A300
                          clear A300
                          by_cases c31 : t370 ≥ 0
                          · rw [if_pos c31] at H
                            have c31b0 : decide (0 ≤ t370) = true := decide_eq_true c31
                            clear c31
                            by_cases c32 : 0 ≤ a0
                            · rw [if_pos c32] at H
                              have c32b0 := eq_true c32
                              have c32b1 : decide (0 ≤ a0) = true := decide_eq_true c32
                              clear c32
                              by_cases c33 : a0 ≤ (t367.length : Int)
                              · rw [if_pos c33] at H
                                have c33b0 := eq_true c33
                                have c33b1 : decide (a0 ≤ (t367.length : Int)) = true := decide_eq_true c33
                                clear c33
                                obtain ⟨y371, hy371⟩ : ∃ y_ : List Int, y_ = (t367.take (a0 : Int).toNat) := ⟨_, rfl⟩
                                replace H : ((codemasonref_Ints.f kj12 y371 t348).bind fun t376 => (some t376)) = some r := by first | (rw [hy371]; with_reducible exact H) | (have H2_ := (Option.bind_some _ _).symm.trans H; rw [hy371]; with_reducible exact H2_) | (have H2_ := (Option.bind_some _ _).symm.trans H; with_reducible exact H2_) | with_reducible exact H | (rw [hy371]; exact H) | exact H
                                have Ny371 := Aside0.mk hy371
                                clear hy371
                                replace H := Option.bind_eq_some_iff.mp H
                                obtain ⟨t376, A340, H⟩ := H
                                replace H : (some t376) = some r := H
                                have A34 := Aside0.mk A340
                                clear A340
                                obtain rfl := Option.some.inj H
                                go_wp2_with (first | ((with_reducible refine gate_callee (f := 33) rfl ?_); refine goesL_ (some 56) rfl rfl Try.func33 (by kernel_rfl) rfl #[.int .i64 a0, .slice A2 l2.length c2] rfl (by (try simp only [List.map_toArray, List.map_cons, List.map_nil]); first | done | rfl | (simp only [List.length_drop, List.length_take]; rfl)) ?_; (with_reducible refine (codemasonref_HaveCheck.calls kj12 a0 _ _ l2 t347 _ ?side1 ?side2 A24.out).mono ?_); (case side1 => repeat (first | exact (Kd.C_below HR2.out HB.out) | (with_reducible refine Kd.C_alloc ?_ _) | (with_reducible refine Kd.C_drewN ?_ _) | (with_reducible refine Kd.C_drew ?_))); (case side2 => exact HC2.out); rintro e w' ⟨rfl, ⟨nd, rfl⟩⟩; refine ⟨_, rfl, ?_⟩) | ((with_reducible refine gate_callee (f := 34) rfl ?_); refine goesL_ (some 61) rfl rfl Try.func34 (by kernel_rfl) rfl #[.slice A1 l1.length c1, .slice A2 l2.length c2, .int .i64 200] rfl (by (try simp only [List.map_toArray, List.map_cons, List.map_nil]); first | done | rfl | (simp only [List.length_drop, List.length_take]; rfl)) ?_; (with_reducible refine (codemasonref_Goes.calls kj12 _ _ l1 (fun k_ => k_ < w.heap.size) _ _ l2 200 t348 t351 true _ ?side1 ?side2 ?side3 A26.out).mono ?_); (case side1 => repeat (first | exact (Kd.C_below HR1.out (by repeat (first | (with_reducible first | exact HB.out | apply below_alloc | apply pw_below_drewN | apply below_drew1) | exact HB.out))) | (with_reducible refine Kd.C_alloc ?_ _) | (with_reducible refine Kd.C_drewN ?_ _) | (with_reducible refine Kd.C_drew ?_))); (case side2 => exact HC1.out); (case side3 => exact Kd.V_mk HC2.out (Kd.F_below (Kd.C_F (Kd.heap_int .i64) HR2.out) (by repeat (first | (with_reducible first | exact HB.out | apply below_alloc | apply pw_below_drewN | apply below_drew1) | exact HB.out)))); rintro e w35 ⟨v349, v352, rfl, ho0, ho1, hb⟩; refine ⟨_, rfl, ?_⟩; have n0_ := Aside0.mk (Kd.R_below (by (with_reducible repeat (first | apply Kd.R_alloc | apply Kd.R_drewN | apply Kd.R_drew)); exact HO_7.out) hb); have n1_ := Aside0.mk (Kd.V_lower (Kd.V_mono (ok' := fun k_ => some k_ ≠ (v352 : Value).ownBlock ∧ some k_ ≠ (v342 : Value).ownBlock) ho0 (fun k_ hk_ => ⟨hk_.2, Or.elim hk_.1 (fun hs_ => fun e_ => Nat.not_le.2 hs_ (Kd.R_base HO_7.out k_ e_.symm)) (fun hn_ => (Kd.fresh' (Kd.R_lt (by (with_reducible repeat (first | apply Kd.R_alloc | apply Kd.R_drewN | apply Kd.R_drew)); exact HO_7.out)) k_ hn_))⟩)) (below_size (by repeat (first | (with_reducible first | exact HB.out | apply below_alloc | apply pw_below_drewN | apply below_drew1) | exact HB.out)))); have n2_ := Aside0.mk (Kd.R_lower (Kd.R_mono (ok' := fun k_ => True) ho1 (fun _ hk_ => trivial)) (below_size (by repeat (first | (with_reducible first | exact HB.out | apply below_alloc | apply pw_below_drewN | apply below_drew1) | exact HB.out)))); have n3_ := Aside0.mk (below_step (by repeat (first | (with_reducible first | exact HB.out | apply below_alloc | apply pw_below_drewN | apply below_drew1) | exact HB.out)) hb); clear HO_7; clear HB; have HO_7 := n0_; have HO350 := n1_; have HO353 := n2_; have HB := n3_; clear n0_ n1_ n2_ n3_; (try clear hb); (try clear hb2); (try clear hk); (try clear hi); (try clear ho0); (try clear ho1)) | ((with_reducible refine gate_dst (N := 69) rfl ?_); (try (refine gate_guard (by rfl) ?_; dsimp only)); refine Kd.R_lit (Kd.int .i64) _ 3 ?hg (N := 69) ?hd (xs := ([] : List Int)) (inner := []) (ok := fun _ => True) (okp := fun _ => True) ?hr ?hp (fun _ hk => hk) trivial (Below.refl _ _) (Nat.le_refl _) (by simp) ?_; (case hd => rfl); (case hg => rfl); (case hr => first | (go_simp; done) | (go_simp; rfl)); (case hp => exact (Reps.none _ _)); intro v356 w36 ho37 hb hg_ hnew_; clear hg_ hnew_; (first | rw [← Ny355.out] at ho37 | (simp only [Int.reduceToNat] at ho37; rw [← Ny355.out] at ho37)); have n0_ := Aside0.mk (Kd.R_below (by (with_reducible repeat (first | apply Kd.R_alloc | apply Kd.R_drewN | apply Kd.R_drew)); exact HO_7.out) hb); have n1_ := Aside0.mk (Kd.V_elder' (by (with_reducible repeat (first | apply Kd.V_alloc | apply Kd.V_drewN | apply Kd.V_drew)); exact HO350.out) (Kd.R_base ho37) hb); have n2_ := Aside0.mk (Kd.R_elder' (by (with_reducible repeat (first | apply Kd.R_alloc | apply Kd.R_drewN | apply Kd.R_drew)); exact HO353.out) (Kd.R_base ho37) hb); have n3_ := Aside0.mk (Kd.R_lower (Kd.R_new' ho37 (Kd.R_lt (by (with_reducible repeat (first | apply Kd.R_alloc | apply Kd.R_drewN | apply Kd.R_drew)); exact HO353.out))) (below_size (by repeat (first | (with_reducible first | exact HB.out | apply below_alloc | apply pw_below_drewN | apply below_drew1) | exact HB.out)))); have n4_ := Aside0.mk (below_step (by repeat (first | (with_reducible first | exact HB.out | apply below_alloc | apply pw_below_drewN | apply below_drew1) | exact HB.out)) hb); clear HO_7; clear HO350; clear HO353; clear HB; have HO_7 := n0_; have HO350 := n1_; have HO353 := n2_; have HO357 := n3_; have HB := n4_; clear n0_ n1_ n2_ n3_ n4_; clear hb ho37) | ((with_reducible refine gate_builtin (b := .append) (xs := #[.tmp 69, .tmp 70]) rfl ?_); (try (refine gate_guard (by rfl) ?_; dsimp only)); at_builtin; refine Kd.R_append_rows (Kd.int .i64) (w0 := w) w.heap.size rfl (.tmp 69) (.tmp 70) 23 3 (.int .i64 0) 8 rfl Try.underlying23 info3 rfl (by decide) (by omega) v356 y355 l2 _ _ _ (fun k_ => some k_ ≠ (v352 : Value).ownBlock) (fun _ => False) rfl rfl ?aO ?aR (fun _ _ h => h) (fun _ h => h.elim) ?aF ?aB ?aS ?aL ?_; (case aR => repeat (first | exact (Kd.C_below HR2.out HB.out) | (with_reducible refine Kd.C_alloc ?_ _) | (with_reducible refine Kd.C_drewN ?_ _) | (with_reducible refine Kd.C_drew ?_))); (case aB => exact (by repeat (first | (with_reducible first | exact HB.out | apply below_alloc | apply pw_below_drewN | apply below_drew1) | exact HB.out))); (case aF => exact (fun k_ hk => Kd.fresh' (Kd.R_lt (by (with_reducible repeat (first | apply Kd.R_alloc | apply Kd.R_drewN | apply Kd.R_drew)); exact HO353.out)) k_ hk)); (case aO => exact (by (with_reducible repeat (first | apply Kd.R_alloc | apply Kd.R_drewN | apply Kd.R_drew)); exact Kd.R_mono HO357.out (fun _ hk => hk.2))); (case aS => exact (below_size (by repeat (first | (with_reducible first | exact HB.out | apply below_alloc | apply pw_below_drewN | apply below_drew1) | exact HB.out)))); (case aL => have := LMc28.out; omega); intro v359 w38 ho hb hg hat; rw [← Ny358.out] at ho; have n0_ := Aside0.mk (Kd.R_over' (by (with_reducible repeat (first | apply Kd.R_alloc | apply Kd.R_drewN | apply Kd.R_drew)); exact HO_7.out) (Kd.R_typed (by (with_reducible repeat (first | apply Kd.R_alloc | apply Kd.R_drewN | apply Kd.R_drew)); exact HO357.out)) (by decide) hg); have n1_ := Aside0.mk (Kd.V_afterv (ok := (fun k_ => some k_ ≠ (v342 : Value).ownBlock ∧ some k_ ≠ (v352 : Value).ownBlock)) (by (with_reducible repeat (first | apply Kd.V_alloc | apply Kd.V_drewN | apply Kd.V_drew)); exact Kd.V_mono HO350.out (fun _ hk => ⟨⟨hk.1.2, hk.1.1⟩, hk.2⟩)) hg hat); have n2_ := Aside0.mk (Kd.R_after (ok := (fun _ => True)) (by (with_reducible repeat (first | apply Kd.R_alloc | apply Kd.R_drewN | apply Kd.R_drew)); exact HO353.out) hg hat); have n3_ := Aside0.mk (hb); have n4_ := Aside0.mk (ho); clear HO_7; clear HO350; clear HO353; clear HB; clear HO357; have HO_7 := n0_; have HO350 := n1_; have HO353 := n2_; have HB := n3_; have HO360 := n4_; clear n0_ n1_ n2_ n3_ n4_; clear ho hb hg hat) | ((with_reducible refine gate_dst (N := 72) rfl ?_); (try (refine gate_guard (by rfl) ?_; dsimp only)); refine Kd.R_lit (Kd.int .i64) _ 3 ?hg (N := 72) ?hd (xs := ([0, 0] : List Int)) (inner := [.int .i64 0, .int .i64 0]) (ok := fun _ => True) (okp := fun _ => True) ?hr ?hp (fun _ hk => hk) trivial (Below.refl _ _) (Nat.le_refl _) (by simp) ?_; (case hd => rfl); (case hg => rfl); (case hr => first | (go_simp; done) | (go_simp; rfl)); (case hp => exact (Reps.one (show Kd.M (Kd.int .i64) _ _ _ 0 [.int .i64 0] from rfl) (Reps.one (show Kd.M (Kd.int .i64) _ _ _ 0 [.int .i64 0] from rfl) (Reps.none _ _)))); intro v362 w39 ho40 hb hg_ hnew_; clear hg_ hnew_; (first | rw [← Ny361.out] at ho40 | (simp only [Int.reduceToNat] at ho40; rw [← Ny361.out] at ho40)); have n0_ := Aside0.mk (Kd.R_below (by (with_reducible repeat (first | apply Kd.R_alloc | apply Kd.R_drewN | apply Kd.R_drew)); exact HO_7.out) hb); have n1_ := Aside0.mk (Kd.V_elder' (by (with_reducible repeat (first | apply Kd.V_alloc | apply Kd.V_drewN | apply Kd.V_drew)); exact HO350.out) (Kd.R_base ho40) hb); have n2_ := Aside0.mk (Kd.R_elder' (by (with_reducible repeat (first | apply Kd.R_alloc | apply Kd.R_drewN | apply Kd.R_drew)); exact HO353.out) (Kd.R_base ho40) hb); have n3_ := Aside0.mk (Kd.R_elder' (by (with_reducible repeat (first | apply Kd.R_alloc | apply Kd.R_drewN | apply Kd.R_drew)); exact HO360.out) (Kd.R_base ho40) hb); have n4_ := Aside0.mk (Kd.R_lower (Kd.R_new' (Kd.R_new' ho40 (Kd.R_lt (by (with_reducible repeat (first | apply Kd.R_alloc | apply Kd.R_drewN | apply Kd.R_drew)); exact HO353.out))) (Kd.R_lt (by (with_reducible repeat (first | apply Kd.R_alloc | apply Kd.R_drewN | apply Kd.R_drew)); exact HO360.out))) (below_size (by repeat (first | (with_reducible first | exact HB.out | apply below_alloc | apply pw_below_drewN | apply below_drew1) | exact HB.out)))); have n5_ := Aside0.mk (below_step (by repeat (first | (with_reducible first | exact HB.out | apply below_alloc | apply pw_below_drewN | apply below_drew1) | exact HB.out)) hb); clear HO_7; clear HO350; clear HO353; clear HO360; clear HB; have HO_7 := n0_; have HO350 := n1_; have HO353 := n2_; have HO360 := n3_; have HO363 := n4_; have HB := n5_; clear n0_ n1_ n2_ n3_ n4_ n5_; clear hb ho40; obtain ⟨Ao42, co42, eo42⟩ := Kd.R_slice HO363.out; subst eo42) | ((with_reducible refine gate_builtin (b := .append) (xs := #[.tmp 71, .tmp 72]) rfl ?_); (try (refine gate_guard (by rfl) ?_; dsimp only)); at_builtin; refine Kd.R_append_rows (Kd.int .i64) (w0 := w) w.heap.size rfl (.tmp 71) (.tmp 72) 23 3 (.int .i64 0) 8 rfl Try.underlying23 info3 rfl (by decide) (by omega) v359 y358 y361 _ _ _ (fun k_ => some k_ ≠ (v352 : Value).ownBlock ∧ some k_ ≠ (.slice Ao42 y361.length co42 : Value).ownBlock) (fun _ => False) rfl rfl ?aO ?aR (fun _ _ h => h) (fun _ h => h.elim) ?aF ?aB ?aS ?aL ?_; (case aR => repeat (first | exact (Kd.R_reads' HO363.out).2.2 | (with_reducible refine Kd.C_alloc ?_ _) | (with_reducible refine Kd.C_drewN ?_ _) | (with_reducible refine Kd.C_drew ?_))); (case aB => exact (by repeat (first | (with_reducible first | exact HB.out | apply below_alloc | apply pw_below_drewN | apply below_drew1) | exact HB.out))); (case aF => exact (fun k_ hk => ⟨Kd.fresh' (Kd.R_lt (by (with_reducible repeat (first | apply Kd.R_alloc | apply Kd.R_drewN | apply Kd.R_drew)); exact HO353.out)) k_ hk, Kd.fresh' (Kd.R_lt (by (with_reducible repeat (first | apply Kd.R_alloc | apply Kd.R_drewN | apply Kd.R_drew)); exact HO363.out)) k_ hk⟩)); (case aO => exact (by (with_reducible repeat (first | apply Kd.R_alloc | apply Kd.R_drewN | apply Kd.R_drew)); exact HO360.out)); (case aS => exact (below_size (by repeat (first | (with_reducible first | exact HB.out | apply below_alloc | apply pw_below_drewN | apply below_drew1) | exact HB.out)))); (case aL => have := LMc29.out; omega); intro v365 w41 ho hb hg hat; rw [← Ny364.out] at ho; have n0_ := Aside0.mk (Kd.R_over' (by (with_reducible repeat (first | apply Kd.R_alloc | apply Kd.R_drewN | apply Kd.R_drew)); exact HO_7.out) (Kd.R_typed (by (with_reducible repeat (first | apply Kd.R_alloc | apply Kd.R_drewN | apply Kd.R_drew)); exact HO360.out)) (by decide) hg); have n1_ := Aside0.mk (Kd.V_afterv (ok := (fun k_ => some k_ ≠ (v342 : Value).ownBlock ∧ some k_ ≠ (v352 : Value).ownBlock ∧ some k_ ≠ (.slice Ao42 y361.length co42 : Value).ownBlock)) (by (with_reducible repeat (first | apply Kd.V_alloc | apply Kd.V_drewN | apply Kd.V_drew)); exact Kd.V_mono HO350.out (fun _ hk => ⟨⟨hk.1.1.1, ⟨hk.1.1.2, hk.2⟩⟩, hk.1.2⟩)) hg hat); have n2_ := Aside0.mk (Kd.R_after (ok := (fun k_ => some k_ ≠ (.slice Ao42 y361.length co42 : Value).ownBlock)) (by (with_reducible repeat (first | apply Kd.R_alloc | apply Kd.R_drewN | apply Kd.R_drew)); exact Kd.R_mono HO353.out (fun _ hk => ⟨hk.2, hk.1.2⟩)) hg hat); have n3_ := Aside0.mk (Kd.R_after (ok := (fun k_ => some k_ ≠ (v352 : Value).ownBlock)) (by (with_reducible repeat (first | apply Kd.R_alloc | apply Kd.R_drewN | apply Kd.R_drew)); exact Kd.R_mono HO363.out (fun _ hk => ⟨hk.1.2, hk.2⟩)) hg hat); have n4_ := Aside0.mk (hb); have n5_ := Aside0.mk (ho); clear HO_7; clear HO350; clear HO353; clear HO363; clear HB; clear HO360; have HO_7 := n0_; have HO350 := n1_; have HO353 := n2_; have HO363 := n3_; have HB := n4_; have HO366 := n5_; clear n0_ n1_ n2_ n3_ n4_ n5_; clear ho hb hg hat; obtain ⟨Ao43, co43, eo43⟩ := Kd.R_slice HO_7.out; subst eo43; obtain ⟨Ao44, co44, eo44⟩ := Kd.R_slice HO366.out; subst eo44) | ((with_reducible refine gate_callee (f := 35) rfl ?_); refine goesL_ (some 74) rfl rfl Try.func35 (by kernel_rfl) rfl #[.slice Ao43 t340.length co43, .slice Ao44 y364.length co44, .int .i64 200] rfl (by (try simp only [List.map_toArray, List.map_cons, List.map_nil]); first | done | rfl | (simp only [List.length_drop, List.length_take]; rfl)) ?_; (with_reducible refine (codemasonref_Shaped.calls kj12 _ _ t340 (fun k_ => some k_ = (.slice Ao44 y364.length co44 : Value).ownBlock) _ _ y364 200 t367 t370 _ ?side1 ?side2 ?side3 A30.out).mono ?_); (case side1 => repeat (first | exact (Kd.R_reads' HO_7.out).2.2 | (with_reducible refine Kd.C_alloc ?_ _) | (with_reducible refine Kd.C_drewN ?_ _) | (with_reducible refine Kd.C_drew ?_))); (case side2 => exact (Kd.R_reads' HO_7.out).2.1); (case side3 => exact Kd.R_V (Kd.R_tight rfl (Kd.R_apart' (HO366.out) (Kd.R_typed HO_7.out) (by decide)))); rintro e w45 ⟨v368, rfl, ho0, hb⟩; refine ⟨_, rfl, ?_⟩; have n0_ := Aside0.mk (Kd.R_below (by (with_reducible repeat (first | apply Kd.R_alloc | apply Kd.R_drewN | apply Kd.R_drew)); exact HO_7.out) hb); have n1_ := Aside0.mk (Kd.V_below (by (with_reducible repeat (first | apply Kd.V_alloc | apply Kd.V_drewN | apply Kd.V_drew)); exact HO350.out) hb); have n2_ := Aside0.mk (Kd.R_below (by (with_reducible repeat (first | apply Kd.R_alloc | apply Kd.R_drewN | apply Kd.R_drew)); exact HO353.out) hb); have n3_ := Aside0.mk (Kd.R_below (by (with_reducible repeat (first | apply Kd.R_alloc | apply Kd.R_drewN | apply Kd.R_drew)); exact HO363.out) hb); have n4_ := Aside0.mk (Kd.R_below (by (with_reducible repeat (first | apply Kd.R_alloc | apply Kd.R_drewN | apply Kd.R_drew)); exact HO366.out) hb); have n5_ := Aside0.mk (Kd.V_lower (Kd.V_mono (ok' := fun k_ => some k_ ≠ (.slice Ao43 t340.length co43 : Value).ownBlock ∧ some k_ ≠ (v352 : Value).ownBlock ∧ some k_ ≠ (.slice Ao42 y361.length co42 : Value).ownBlock) ho0 (fun k_ hk_ => ⟨Or.elim hk_ (fun hs_ => ((Kd.R_apart' (HO366.out) (Kd.R_typed HO_7.out) (by decide)).1 k_ hs_.symm).2) (fun hn_ => (Kd.fresh' (Kd.R_lt (by (with_reducible repeat (first | apply Kd.R_alloc | apply Kd.R_drewN | apply Kd.R_drew)); exact HO_7.out)) k_ hn_)), Or.elim hk_ (fun hs_ => ((Kd.R_apart' (HO366.out) (Kd.R_typed HO_7.out) (by decide)).1 k_ hs_.symm).1.1) (fun hn_ => (Kd.fresh' (Kd.R_lt (by (with_reducible repeat (first | apply Kd.R_alloc | apply Kd.R_drewN | apply Kd.R_drew)); exact HO353.out)) k_ hn_)), Or.elim hk_ (fun hs_ => ((Kd.R_apart' (HO366.out) (Kd.R_typed HO_7.out) (by decide)).1 k_ hs_.symm).1.2) (fun hn_ => (Kd.fresh' (Kd.R_lt (by (with_reducible repeat (first | apply Kd.R_alloc | apply Kd.R_drewN | apply Kd.R_drew)); exact HO363.out)) k_ hn_))⟩)) (below_size (by repeat (first | (with_reducible first | exact HB.out | apply below_alloc | apply pw_below_drewN | apply below_drew1) | exact HB.out)))); have n6_ := Aside0.mk (below_step (by repeat (first | (with_reducible first | exact HB.out | apply below_alloc | apply pw_below_drewN | apply below_drew1) | exact HB.out)) hb); clear HO_7; clear HO350; clear HO353; clear HO363; clear HO366; clear HB; have HO_7 := n0_; have HO350 := n1_; have HO353 := n2_; have HO363 := n3_; have HO366 := n4_; have HO369 := n5_; have HB := n6_; clear n0_ n1_ n2_ n3_ n4_ n5_ n6_; (try clear hb); (try clear hb2); (try clear hk); (try clear hi); (try clear ho0); obtain ⟨Ao47, co47, eo47⟩ := Kd.V_slice HO369.out; subst eo47; have q46 : (a0 : Int) ≤ ((t367.length : Int) : Int) := of_decide_eq_true (by first | (with_reducible assumption) | assumption); obtain ⟨i046, hi046, _, hsz46, _⟩ := info_parts info3; have hroom46 : t367.length ≤ co47 := (Kd.V_reads' HO369.out).2.1; have hC46 : Kd.F (Kd.int .i64) _ _ Ao47 t367.length t367 := (Kd.V_at (base := w.heap.size) HO369.out).2.2; have hcut46 := cut_to (P := Try.prog) 23 3 .i64 Try.underlying23 hi046 Ao47 t367.length co47 a0 (of_decide_eq_true (by first | (with_reducible assumption) | assumption)) q46 hroom46; have hr46 := Kd.F_take (m := (a0 : Int).toNat) hC46 (by omega); have hy46 : y371.length = (a0 : Int).toNat := (by rw [Ny371.out, List.length_take]; omega); rw [← Ny371.out] at hr46; rw [← hy46] at hcut46; have HO375 := Aside0.mk (show Kd.V (Kd.int .i64) 3 _ w.heap.size _ (.slice Ao47 y371.length co47) y371 from Kd.V_mk (by omega) hr46); have HC375 := Aside0.mk (show y371.length ≤ co47 from by omega); clear hr46 hC46 hroom46 hi046 hsz46; have KY46 := Aside0.mk hy46; clear hy46; replace q46 := eq_true q46; obtain ⟨Ao48, co48, eo48⟩ := Kd.V_slice HO350.out; subst eo48) | (go_at_call 24; (with_reducible refine (codemasonref_Ints.calls kj12 _ _ y371 _ _ t348 t376 _ ?side1 ?side2 ?side3 ?side4 A34.out).mono ?_); (case side1 => repeat (first | exact (Kd.V_reads' HO375.out).2.2 | (with_reducible refine Kd.C_alloc ?_ _) | (with_reducible refine Kd.C_drewN ?_ _) | (with_reducible refine Kd.C_drew ?_))); (case side2 => exact (Kd.V_reads' HO375.out).2.1); (case side3 => repeat (first | exact (Kd.V_reads' HO350.out).2.2 | (with_reducible refine Kd.C_alloc ?_ _) | (with_reducible refine Kd.C_drewN ?_ _) | (with_reducible refine Kd.C_drew ?_))); (case side4 => exact (Kd.V_reads' HO350.out).2.1); rintro e w' ⟨rfl, ⟨nd, rfl⟩⟩))
                                go_ret
                                exact ⟨by first | rfl | (simp [errW_none, errW_some] <;> rfl) | (simp [*, errW_none, errW_some] <;> rfl), by repeat (first | (with_reducible first | exact HB.out | apply below_alloc | apply pw_below_drewN | apply below_drew1) | exact HB.out)⟩
                              · rw [if_neg c33] at H
                                exact absurd H (by simp)
                            · rw [if_neg c32] at H
                              exact absurd H (by simp)
                          · rw [if_neg c31] at H
                            have c31b0 : decide (0 ≤ t370) = false := decide_eq_false c31
                            clear c31
                            obtain rfl := Option.some.inj H
                            go_wp2_with (first | ((with_reducible refine gate_callee (f := 33) rfl ?_); refine goesL_ (some 56) rfl rfl Try.func33 (by kernel_rfl) rfl #[.int .i64 a0, .slice A2 l2.length c2] rfl (by (try simp only [List.map_toArray, List.map_cons, List.map_nil]); first | done | rfl | (simp only [List.length_drop, List.length_take]; rfl)) ?_; (with_reducible refine (codemasonref_HaveCheck.calls kj12 a0 _ _ l2 t347 _ ?side1 ?side2 A24.out).mono ?_); (case side1 => repeat (first | exact (Kd.C_below HR2.out HB.out) | (with_reducible refine Kd.C_alloc ?_ _) | (with_reducible refine Kd.C_drewN ?_ _) | (with_reducible refine Kd.C_drew ?_))); (case side2 => exact HC2.out); rintro e w' ⟨rfl, ⟨nd, rfl⟩⟩; refine ⟨_, rfl, ?_⟩) | ((with_reducible refine gate_callee (f := 34) rfl ?_); refine goesL_ (some 61) rfl rfl Try.func34 (by kernel_rfl) rfl #[.slice A1 l1.length c1, .slice A2 l2.length c2, .int .i64 200] rfl (by (try simp only [List.map_toArray, List.map_cons, List.map_nil]); first | done | rfl | (simp only [List.length_drop, List.length_take]; rfl)) ?_; (with_reducible refine (codemasonref_Goes.calls kj12 _ _ l1 (fun k_ => k_ < w.heap.size) _ _ l2 200 t348 t351 true _ ?side1 ?side2 ?side3 A26.out).mono ?_); (case side1 => repeat (first | exact (Kd.C_below HR1.out (by repeat (first | (with_reducible first | exact HB.out | apply below_alloc | apply pw_below_drewN | apply below_drew1) | exact HB.out))) | (with_reducible refine Kd.C_alloc ?_ _) | (with_reducible refine Kd.C_drewN ?_ _) | (with_reducible refine Kd.C_drew ?_))); (case side2 => exact HC1.out); (case side3 => exact Kd.V_mk HC2.out (Kd.F_below (Kd.C_F (Kd.heap_int .i64) HR2.out) (by repeat (first | (with_reducible first | exact HB.out | apply below_alloc | apply pw_below_drewN | apply below_drew1) | exact HB.out)))); rintro e w49 ⟨v349, v352, rfl, ho0, ho1, hb⟩; refine ⟨_, rfl, ?_⟩; have n0_ := Aside0.mk (Kd.R_below (by (with_reducible repeat (first | apply Kd.R_alloc | apply Kd.R_drewN | apply Kd.R_drew)); exact HO_7.out) hb); have n1_ := Aside0.mk (Kd.V_lower (Kd.V_mono (ok' := fun k_ => some k_ ≠ (v352 : Value).ownBlock ∧ some k_ ≠ (v342 : Value).ownBlock) ho0 (fun k_ hk_ => ⟨hk_.2, Or.elim hk_.1 (fun hs_ => fun e_ => Nat.not_le.2 hs_ (Kd.R_base HO_7.out k_ e_.symm)) (fun hn_ => (Kd.fresh' (Kd.R_lt (by (with_reducible repeat (first | apply Kd.R_alloc | apply Kd.R_drewN | apply Kd.R_drew)); exact HO_7.out)) k_ hn_))⟩)) (below_size (by repeat (first | (with_reducible first | exact HB.out | apply below_alloc | apply pw_below_drewN | apply below_drew1) | exact HB.out)))); have n2_ := Aside0.mk (Kd.R_lower (Kd.R_mono (ok' := fun k_ => True) ho1 (fun _ hk_ => trivial)) (below_size (by repeat (first | (with_reducible first | exact HB.out | apply below_alloc | apply pw_below_drewN | apply below_drew1) | exact HB.out)))); have n3_ := Aside0.mk (below_step (by repeat (first | (with_reducible first | exact HB.out | apply below_alloc | apply pw_below_drewN | apply below_drew1) | exact HB.out)) hb); clear HO_7; clear HB; have HO_7 := n0_; have HO350 := n1_; have HO353 := n2_; have HB := n3_; clear n0_ n1_ n2_ n3_; (try clear hb); (try clear hb2); (try clear hk); (try clear hi); (try clear ho0); (try clear ho1)) | ((with_reducible refine gate_dst (N := 69) rfl ?_); (try (refine gate_guard (by rfl) ?_; dsimp only)); refine Kd.R_lit (Kd.int .i64) _ 3 ?hg (N := 69) ?hd (xs := ([] : List Int)) (inner := []) (ok := fun _ => True) (okp := fun _ => True) ?hr ?hp (fun _ hk => hk) trivial (Below.refl _ _) (Nat.le_refl _) (by simp) ?_; (case hd => rfl); (case hg => rfl); (case hr => first | (go_simp; done) | (go_simp; rfl)); (case hp => exact (Reps.none _ _)); intro v356 w50 ho51 hb hg_ hnew_; clear hg_ hnew_; (first | rw [← Ny355.out] at ho51 | (simp only [Int.reduceToNat] at ho51; rw [← Ny355.out] at ho51)); have n0_ := Aside0.mk (Kd.R_below (by (with_reducible repeat (first | apply Kd.R_alloc | apply Kd.R_drewN | apply Kd.R_drew)); exact HO_7.out) hb); have n1_ := Aside0.mk (Kd.V_elder' (by (with_reducible repeat (first | apply Kd.V_alloc | apply Kd.V_drewN | apply Kd.V_drew)); exact HO350.out) (Kd.R_base ho51) hb); have n2_ := Aside0.mk (Kd.R_elder' (by (with_reducible repeat (first | apply Kd.R_alloc | apply Kd.R_drewN | apply Kd.R_drew)); exact HO353.out) (Kd.R_base ho51) hb); have n3_ := Aside0.mk (Kd.R_lower (Kd.R_new' ho51 (Kd.R_lt (by (with_reducible repeat (first | apply Kd.R_alloc | apply Kd.R_drewN | apply Kd.R_drew)); exact HO353.out))) (below_size (by repeat (first | (with_reducible first | exact HB.out | apply below_alloc | apply pw_below_drewN | apply below_drew1) | exact HB.out)))); have n4_ := Aside0.mk (below_step (by repeat (first | (with_reducible first | exact HB.out | apply below_alloc | apply pw_below_drewN | apply below_drew1) | exact HB.out)) hb); clear HO_7; clear HO350; clear HO353; clear HB; have HO_7 := n0_; have HO350 := n1_; have HO353 := n2_; have HO357 := n3_; have HB := n4_; clear n0_ n1_ n2_ n3_ n4_; clear hb ho51) | ((with_reducible refine gate_builtin (b := .append) (xs := #[.tmp 69, .tmp 70]) rfl ?_); (try (refine gate_guard (by rfl) ?_; dsimp only)); at_builtin; refine Kd.R_append_rows (Kd.int .i64) (w0 := w) w.heap.size rfl (.tmp 69) (.tmp 70) 23 3 (.int .i64 0) 8 rfl Try.underlying23 info3 rfl (by decide) (by omega) v356 y355 l2 _ _ _ (fun k_ => some k_ ≠ (v352 : Value).ownBlock) (fun _ => False) rfl rfl ?aO ?aR (fun _ _ h => h) (fun _ h => h.elim) ?aF ?aB ?aS ?aL ?_; (case aR => repeat (first | exact (Kd.C_below HR2.out HB.out) | (with_reducible refine Kd.C_alloc ?_ _) | (with_reducible refine Kd.C_drewN ?_ _) | (with_reducible refine Kd.C_drew ?_))); (case aB => exact (by repeat (first | (with_reducible first | exact HB.out | apply below_alloc | apply pw_below_drewN | apply below_drew1) | exact HB.out))); (case aF => exact (fun k_ hk => Kd.fresh' (Kd.R_lt (by (with_reducible repeat (first | apply Kd.R_alloc | apply Kd.R_drewN | apply Kd.R_drew)); exact HO353.out)) k_ hk)); (case aO => exact (by (with_reducible repeat (first | apply Kd.R_alloc | apply Kd.R_drewN | apply Kd.R_drew)); exact Kd.R_mono HO357.out (fun _ hk => hk.2))); (case aS => exact (below_size (by repeat (first | (with_reducible first | exact HB.out | apply below_alloc | apply pw_below_drewN | apply below_drew1) | exact HB.out)))); (case aL => have := LMc28.out; omega); intro v359 w52 ho hb hg hat; rw [← Ny358.out] at ho; have n0_ := Aside0.mk (Kd.R_over' (by (with_reducible repeat (first | apply Kd.R_alloc | apply Kd.R_drewN | apply Kd.R_drew)); exact HO_7.out) (Kd.R_typed (by (with_reducible repeat (first | apply Kd.R_alloc | apply Kd.R_drewN | apply Kd.R_drew)); exact HO357.out)) (by decide) hg); have n1_ := Aside0.mk (Kd.V_afterv (ok := (fun k_ => some k_ ≠ (v342 : Value).ownBlock ∧ some k_ ≠ (v352 : Value).ownBlock)) (by (with_reducible repeat (first | apply Kd.V_alloc | apply Kd.V_drewN | apply Kd.V_drew)); exact Kd.V_mono HO350.out (fun _ hk => ⟨⟨hk.1.2, hk.1.1⟩, hk.2⟩)) hg hat); have n2_ := Aside0.mk (Kd.R_after (ok := (fun _ => True)) (by (with_reducible repeat (first | apply Kd.R_alloc | apply Kd.R_drewN | apply Kd.R_drew)); exact HO353.out) hg hat); have n3_ := Aside0.mk (hb); have n4_ := Aside0.mk (ho); clear HO_7; clear HO350; clear HO353; clear HB; clear HO357; have HO_7 := n0_; have HO350 := n1_; have HO353 := n2_; have HB := n3_; have HO360 := n4_; clear n0_ n1_ n2_ n3_ n4_; clear ho hb hg hat) | ((with_reducible refine gate_dst (N := 72) rfl ?_); (try (refine gate_guard (by rfl) ?_; dsimp only)); refine Kd.R_lit (Kd.int .i64) _ 3 ?hg (N := 72) ?hd (xs := ([0, 0] : List Int)) (inner := [.int .i64 0, .int .i64 0]) (ok := fun _ => True) (okp := fun _ => True) ?hr ?hp (fun _ hk => hk) trivial (Below.refl _ _) (Nat.le_refl _) (by simp) ?_; (case hd => rfl); (case hg => rfl); (case hr => first | (go_simp; done) | (go_simp; rfl)); (case hp => exact (Reps.one (show Kd.M (Kd.int .i64) _ _ _ 0 [.int .i64 0] from rfl) (Reps.one (show Kd.M (Kd.int .i64) _ _ _ 0 [.int .i64 0] from rfl) (Reps.none _ _)))); intro v362 w53 ho54 hb hg_ hnew_; clear hg_ hnew_; (first | rw [← Ny361.out] at ho54 | (simp only [Int.reduceToNat] at ho54; rw [← Ny361.out] at ho54)); have n0_ := Aside0.mk (Kd.R_below (by (with_reducible repeat (first | apply Kd.R_alloc | apply Kd.R_drewN | apply Kd.R_drew)); exact HO_7.out) hb); have n1_ := Aside0.mk (Kd.V_elder' (by (with_reducible repeat (first | apply Kd.V_alloc | apply Kd.V_drewN | apply Kd.V_drew)); exact HO350.out) (Kd.R_base ho54) hb); have n2_ := Aside0.mk (Kd.R_elder' (by (with_reducible repeat (first | apply Kd.R_alloc | apply Kd.R_drewN | apply Kd.R_drew)); exact HO353.out) (Kd.R_base ho54) hb); have n3_ := Aside0.mk (Kd.R_elder' (by (with_reducible repeat (first | apply Kd.R_alloc | apply Kd.R_drewN | apply Kd.R_drew)); exact HO360.out) (Kd.R_base ho54) hb); have n4_ := Aside0.mk (Kd.R_lower (Kd.R_new' (Kd.R_new' ho54 (Kd.R_lt (by (with_reducible repeat (first | apply Kd.R_alloc | apply Kd.R_drewN | apply Kd.R_drew)); exact HO353.out))) (Kd.R_lt (by (with_reducible repeat (first | apply Kd.R_alloc | apply Kd.R_drewN | apply Kd.R_drew)); exact HO360.out))) (below_size (by repeat (first | (with_reducible first | exact HB.out | apply below_alloc | apply pw_below_drewN | apply below_drew1) | exact HB.out)))); have n5_ := Aside0.mk (below_step (by repeat (first | (with_reducible first | exact HB.out | apply below_alloc | apply pw_below_drewN | apply below_drew1) | exact HB.out)) hb); clear HO_7; clear HO350; clear HO353; clear HO360; clear HB; have HO_7 := n0_; have HO350 := n1_; have HO353 := n2_; have HO360 := n3_; have HO363 := n4_; have HB := n5_; clear n0_ n1_ n2_ n3_ n4_ n5_; clear hb ho54; obtain ⟨Ao56, co56, eo56⟩ := Kd.R_slice HO363.out; subst eo56) | ((with_reducible refine gate_builtin (b := .append) (xs := #[.tmp 71, .tmp 72]) rfl ?_); (try (refine gate_guard (by rfl) ?_; dsimp only)); at_builtin; refine Kd.R_append_rows (Kd.int .i64) (w0 := w) w.heap.size rfl (.tmp 71) (.tmp 72) 23 3 (.int .i64 0) 8 rfl Try.underlying23 info3 rfl (by decide) (by omega) v359 y358 y361 _ _ _ (fun k_ => some k_ ≠ (v352 : Value).ownBlock ∧ some k_ ≠ (.slice Ao56 y361.length co56 : Value).ownBlock) (fun _ => False) rfl rfl ?aO ?aR (fun _ _ h => h) (fun _ h => h.elim) ?aF ?aB ?aS ?aL ?_; (case aR => repeat (first | exact (Kd.R_reads' HO363.out).2.2 | (with_reducible refine Kd.C_alloc ?_ _) | (with_reducible refine Kd.C_drewN ?_ _) | (with_reducible refine Kd.C_drew ?_))); (case aB => exact (by repeat (first | (with_reducible first | exact HB.out | apply below_alloc | apply pw_below_drewN | apply below_drew1) | exact HB.out))); (case aF => exact (fun k_ hk => ⟨Kd.fresh' (Kd.R_lt (by (with_reducible repeat (first | apply Kd.R_alloc | apply Kd.R_drewN | apply Kd.R_drew)); exact HO353.out)) k_ hk, Kd.fresh' (Kd.R_lt (by (with_reducible repeat (first | apply Kd.R_alloc | apply Kd.R_drewN | apply Kd.R_drew)); exact HO363.out)) k_ hk⟩)); (case aO => exact (by (with_reducible repeat (first | apply Kd.R_alloc | apply Kd.R_drewN | apply Kd.R_drew)); exact HO360.out)); (case aS => exact (below_size (by repeat (first | (with_reducible first | exact HB.out | apply below_alloc | apply pw_below_drewN | apply below_drew1) | exact HB.out)))); (case aL => have := LMc29.out; omega); intro v365 w55 ho hb hg hat; rw [← Ny364.out] at ho; have n0_ := Aside0.mk (Kd.R_over' (by (with_reducible repeat (first | apply Kd.R_alloc | apply Kd.R_drewN | apply Kd.R_drew)); exact HO_7.out) (Kd.R_typed (by (with_reducible repeat (first | apply Kd.R_alloc | apply Kd.R_drewN | apply Kd.R_drew)); exact HO360.out)) (by decide) hg); have n1_ := Aside0.mk (Kd.V_afterv (ok := (fun k_ => some k_ ≠ (v342 : Value).ownBlock ∧ some k_ ≠ (v352 : Value).ownBlock ∧ some k_ ≠ (.slice Ao56 y361.length co56 : Value).ownBlock)) (by (with_reducible repeat (first | apply Kd.V_alloc | apply Kd.V_drewN | apply Kd.V_drew)); exact Kd.V_mono HO350.out (fun _ hk => ⟨⟨hk.1.1.1, ⟨hk.1.1.2, hk.2⟩⟩, hk.1.2⟩)) hg hat); have n2_ := Aside0.mk (Kd.R_after (ok := (fun k_ => some k_ ≠ (.slice Ao56 y361.length co56 : Value).ownBlock)) (by (with_reducible repeat (first | apply Kd.R_alloc | apply Kd.R_drewN | apply Kd.R_drew)); exact Kd.R_mono HO353.out (fun _ hk => ⟨hk.2, hk.1.2⟩)) hg hat); have n3_ := Aside0.mk (Kd.R_after (ok := (fun k_ => some k_ ≠ (v352 : Value).ownBlock)) (by (with_reducible repeat (first | apply Kd.R_alloc | apply Kd.R_drewN | apply Kd.R_drew)); exact Kd.R_mono HO363.out (fun _ hk => ⟨hk.1.2, hk.2⟩)) hg hat); have n4_ := Aside0.mk (hb); have n5_ := Aside0.mk (ho); clear HO_7; clear HO350; clear HO353; clear HO363; clear HB; clear HO360; have HO_7 := n0_; have HO350 := n1_; have HO353 := n2_; have HO363 := n3_; have HB := n4_; have HO366 := n5_; clear n0_ n1_ n2_ n3_ n4_ n5_; clear ho hb hg hat; obtain ⟨Ao57, co57, eo57⟩ := Kd.R_slice HO_7.out; subst eo57; obtain ⟨Ao58, co58, eo58⟩ := Kd.R_slice HO366.out; subst eo58) | ((with_reducible refine gate_callee (f := 35) rfl ?_); refine goesL_ (some 74) rfl rfl Try.func35 (by kernel_rfl) rfl #[.slice Ao57 t340.length co57, .slice Ao58 y364.length co58, .int .i64 200] rfl (by (try simp only [List.map_toArray, List.map_cons, List.map_nil]); first | done | rfl | (simp only [List.length_drop, List.length_take]; rfl)) ?_; (with_reducible refine (codemasonref_Shaped.calls kj12 _ _ t340 (fun k_ => some k_ = (.slice Ao58 y364.length co58 : Value).ownBlock) _ _ y364 200 t367 t370 _ ?side1 ?side2 ?side3 A30.out).mono ?_); (case side1 => repeat (first | exact (Kd.R_reads' HO_7.out).2.2 | (with_reducible refine Kd.C_alloc ?_ _) | (with_reducible refine Kd.C_drewN ?_ _) | (with_reducible refine Kd.C_drew ?_))); (case side2 => exact (Kd.R_reads' HO_7.out).2.1); (case side3 => exact Kd.R_V (Kd.R_tight rfl (Kd.R_apart' (HO366.out) (Kd.R_typed HO_7.out) (by decide)))); rintro e w59 ⟨v368, rfl, ho0, hb⟩; refine ⟨_, rfl, ?_⟩; have n0_ := Aside0.mk (Kd.R_below (by (with_reducible repeat (first | apply Kd.R_alloc | apply Kd.R_drewN | apply Kd.R_drew)); exact HO_7.out) hb); have n1_ := Aside0.mk (Kd.V_below (by (with_reducible repeat (first | apply Kd.V_alloc | apply Kd.V_drewN | apply Kd.V_drew)); exact HO350.out) hb); have n2_ := Aside0.mk (Kd.R_below (by (with_reducible repeat (first | apply Kd.R_alloc | apply Kd.R_drewN | apply Kd.R_drew)); exact HO353.out) hb); have n3_ := Aside0.mk (Kd.R_below (by (with_reducible repeat (first | apply Kd.R_alloc | apply Kd.R_drewN | apply Kd.R_drew)); exact HO363.out) hb); have n4_ := Aside0.mk (Kd.R_below (by (with_reducible repeat (first | apply Kd.R_alloc | apply Kd.R_drewN | apply Kd.R_drew)); exact HO366.out) hb); have n5_ := Aside0.mk (Kd.V_lower (Kd.V_mono (ok' := fun k_ => some k_ ≠ (.slice Ao57 t340.length co57 : Value).ownBlock ∧ some k_ ≠ (v352 : Value).ownBlock ∧ some k_ ≠ (.slice Ao56 y361.length co56 : Value).ownBlock) ho0 (fun k_ hk_ => ⟨Or.elim hk_ (fun hs_ => ((Kd.R_apart' (HO366.out) (Kd.R_typed HO_7.out) (by decide)).1 k_ hs_.symm).2) (fun hn_ => (Kd.fresh' (Kd.R_lt (by (with_reducible repeat (first | apply Kd.R_alloc | apply Kd.R_drewN | apply Kd.R_drew)); exact HO_7.out)) k_ hn_)), Or.elim hk_ (fun hs_ => ((Kd.R_apart' (HO366.out) (Kd.R_typed HO_7.out) (by decide)).1 k_ hs_.symm).1.1) (fun hn_ => (Kd.fresh' (Kd.R_lt (by (with_reducible repeat (first | apply Kd.R_alloc | apply Kd.R_drewN | apply Kd.R_drew)); exact HO353.out)) k_ hn_)), Or.elim hk_ (fun hs_ => ((Kd.R_apart' (HO366.out) (Kd.R_typed HO_7.out) (by decide)).1 k_ hs_.symm).1.2) (fun hn_ => (Kd.fresh' (Kd.R_lt (by (with_reducible repeat (first | apply Kd.R_alloc | apply Kd.R_drewN | apply Kd.R_drew)); exact HO363.out)) k_ hn_))⟩)) (below_size (by repeat (first | (with_reducible first | exact HB.out | apply below_alloc | apply pw_below_drewN | apply below_drew1) | exact HB.out)))); have n6_ := Aside0.mk (below_step (by repeat (first | (with_reducible first | exact HB.out | apply below_alloc | apply pw_below_drewN | apply below_drew1) | exact HB.out)) hb); clear HO_7; clear HO350; clear HO353; clear HO363; clear HO366; clear HB; have HO_7 := n0_; have HO350 := n1_; have HO353 := n2_; have HO363 := n3_; have HO366 := n4_; have HO369 := n5_; have HB := n6_; clear n0_ n1_ n2_ n3_ n4_ n5_ n6_; (try clear hb); (try clear hb2); (try clear hk); (try clear hi); (try clear ho0)))
                            go_ret
                            exact ⟨by first | rfl | (simp [errW_none, errW_some] <;> rfl) | (simp [*, errW_none, errW_some] <;> rfl), by repeat (first | (with_reducible first | exact HB.out | apply below_alloc | apply pw_below_drewN | apply below_drew1) | exact HB.out)⟩
                        · rw [if_neg c29] at H
                          exact absurd H (by simp)
                      · rw [if_neg c28] at H
                        exact absurd H (by simp)
                    · replace c27 := Bool.eq_false_iff.mpr c27
                      subst c27
                      have H1 : (some true) = some r := by rw [if_neg (show ¬ (false = true) by decide)] at H; exact H
                      clear H
                      have H := H1
                      clear H1
                      obtain rfl := Option.some.inj H
                      go_wp2_with (first | ((with_reducible refine gate_callee (f := 33) rfl ?_); refine goesL_ (some 56) rfl rfl Try.func33 (by kernel_rfl) rfl #[.int .i64 a0, .slice A2 l2.length c2] rfl (by (try simp only [List.map_toArray, List.map_cons, List.map_nil]); first | done | rfl | (simp only [List.length_drop, List.length_take]; rfl)) ?_; (with_reducible refine (codemasonref_HaveCheck.calls kj12 a0 _ _ l2 t347 _ ?side1 ?side2 A24.out).mono ?_); (case side1 => repeat (first | exact (Kd.C_below HR2.out HB.out) | (with_reducible refine Kd.C_alloc ?_ _) | (with_reducible refine Kd.C_drewN ?_ _) | (with_reducible refine Kd.C_drew ?_))); (case side2 => exact HC2.out); rintro e w' ⟨rfl, ⟨nd, rfl⟩⟩; refine ⟨_, rfl, ?_⟩) | ((with_reducible refine gate_callee (f := 34) rfl ?_); refine goesL_ (some 61) rfl rfl Try.func34 (by kernel_rfl) rfl #[.slice A1 l1.length c1, .slice A2 l2.length c2, .int .i64 200] rfl (by (try simp only [List.map_toArray, List.map_cons, List.map_nil]); first | done | rfl | (simp only [List.length_drop, List.length_take]; rfl)) ?_; (with_reducible refine (codemasonref_Goes.calls kj12 _ _ l1 (fun k_ => k_ < w.heap.size) _ _ l2 200 t348 t351 false _ ?side1 ?side2 ?side3 A26.out).mono ?_); (case side1 => repeat (first | exact (Kd.C_below HR1.out (by repeat (first | (with_reducible first | exact HB.out | apply below_alloc | apply pw_below_drewN | apply below_drew1) | exact HB.out))) | (with_reducible refine Kd.C_alloc ?_ _) | (with_reducible refine Kd.C_drewN ?_ _) | (with_reducible refine Kd.C_drew ?_))); (case side2 => exact HC1.out); (case side3 => exact Kd.V_mk HC2.out (Kd.F_below (Kd.C_F (Kd.heap_int .i64) HR2.out) (by repeat (first | (with_reducible first | exact HB.out | apply below_alloc | apply pw_below_drewN | apply below_drew1) | exact HB.out)))); rintro e w60 ⟨v349, v352, rfl, ho0, ho1, hb⟩; refine ⟨_, rfl, ?_⟩; have n0_ := Aside0.mk (Kd.R_below (by (with_reducible repeat (first | apply Kd.R_alloc | apply Kd.R_drewN | apply Kd.R_drew)); exact HO_7.out) hb); have n1_ := Aside0.mk (Kd.V_lower (Kd.V_mono (ok' := fun k_ => some k_ ≠ (v352 : Value).ownBlock ∧ some k_ ≠ (v342 : Value).ownBlock) ho0 (fun k_ hk_ => ⟨hk_.2, Or.elim hk_.1 (fun hs_ => fun e_ => Nat.not_le.2 hs_ (Kd.R_base HO_7.out k_ e_.symm)) (fun hn_ => (Kd.fresh' (Kd.R_lt (by (with_reducible repeat (first | apply Kd.R_alloc | apply Kd.R_drewN | apply Kd.R_drew)); exact HO_7.out)) k_ hn_))⟩)) (below_size (by repeat (first | (with_reducible first | exact HB.out | apply below_alloc | apply pw_below_drewN | apply below_drew1) | exact HB.out)))); have n2_ := Aside0.mk (Kd.R_lower (Kd.R_mono (ok' := fun k_ => True) ho1 (fun _ hk_ => trivial)) (below_size (by repeat (first | (with_reducible first | exact HB.out | apply below_alloc | apply pw_below_drewN | apply below_drew1) | exact HB.out)))); have n3_ := Aside0.mk (below_step (by repeat (first | (with_reducible first | exact HB.out | apply below_alloc | apply pw_below_drewN | apply below_drew1) | exact HB.out)) hb); clear HO_7; clear HB; have HO_7 := n0_; have HO350 := n1_; have HO353 := n2_; have HB := n3_; clear n0_ n1_ n2_ n3_; (try clear hb); (try clear hb2); (try clear hk); (try clear hi); (try clear ho0); (try clear ho1)))
                      go_ret
                      exact ⟨by first | rfl | (simp [errW_none, errW_some] <;> rfl) | (simp [*, errW_none, errW_some] <;> rfl), by repeat (first | (with_reducible first | exact HB.out | apply below_alloc | apply pw_below_drewN | apply below_drew1) | exact HB.out)⟩
                  · rw [if_neg c25] at H
                    have c25b0 : (t347 == 0) = false := beq_eq_false_iff_ne.mpr c25
                    have c25b1 : (t347 != 0) = true := bne_iff_ne.mpr c25
                    obtain rfl := Option.some.inj H
                    go_wp2_with (first | ((with_reducible refine gate_callee (f := 33) rfl ?_); refine goesL_ (some 56) rfl rfl Try.func33 (by kernel_rfl) rfl #[.int .i64 a0, .slice A2 l2.length c2] rfl (by (try simp only [List.map_toArray, List.map_cons, List.map_nil]); first | done | rfl | (simp only [List.length_drop, List.length_take]; rfl)) ?_; (with_reducible refine (codemasonref_HaveCheck.calls kj12 a0 _ _ l2 t347 _ ?side1 ?side2 A24.out).mono ?_); (case side1 => repeat (first | exact (Kd.C_below HR2.out HB.out) | (with_reducible refine Kd.C_alloc ?_ _) | (with_reducible refine Kd.C_drewN ?_ _) | (with_reducible refine Kd.C_drew ?_))); (case side2 => exact HC2.out); rintro e w' ⟨rfl, ⟨nd, rfl⟩⟩; refine ⟨_, rfl, ?_⟩))
                    go_ret
                    exact ⟨by first | rfl | (simp [errW_none, errW_some] <;> rfl) | (simp [*, errW_none, errW_some] <;> rfl), by repeat (first | (with_reducible first | exact HB.out | apply below_alloc | apply pw_below_drewN | apply below_drew1) | exact HB.out)⟩
          · rw [if_neg c12] at H
            have c12b0 : (x9_9 == 0) = false := beq_eq_false_iff_ne.mpr c12
            have c12b1 : (x9_9 != 0) = true := bne_iff_ne.mpr c12
            by_cases c61 : t341 = x9_9
            · rw [if_pos c61] at H
              have c61b0 : (t341 == x9_9) = true := beq_iff_eq.mpr c61
              have c61b1 : (t341 != x9_9) = false := bne_eq_false_iff_eq.mpr c61
              clear c61
              obtain rfl := Option.some.inj H
              obtain ⟨Ao62, co62, eo62⟩ := Kd.R_slice HO_7.out
              subst eo62
              go_wp2
              go_ret
              exact ⟨by first | rfl | (simp [errW_none, errW_some] <;> rfl) | (simp [*, errW_none, errW_some] <;> rfl), by repeat (first | (with_reducible first | exact HB.out | apply below_alloc | apply pw_below_drewN | apply below_drew1) | exact HB.out)⟩
            · rw [if_neg c61] at H
              have c61b0 : (t341 == x9_9) = false := beq_eq_false_iff_ne.mpr c61
              have c61b1 : (t341 != x9_9) = true := bne_iff_ne.mpr c61
              obtain rfl := Option.some.inj H
              go_wp2
              go_ret
              exact ⟨by first | rfl | (simp [errW_none, errW_some] <;> rfl) | (simp [*, errW_none, errW_some] <;> rfl), by repeat (first | (with_reducible first | exact HB.out | apply below_alloc | apply pw_below_drewN | apply below_drew1) | exact HB.out)⟩
end Go.Proofs.Ytaicamjpcnhjcaa.PA
namespace Go.Proofs.Ytaicamjpcnhjcaa.PA
open Go.RowKit Go.Proofs.YtaicamjpcnhjcaaW.PrintWords Go.Proofs.YtaicamjpcnhjcaaW.PrintLast Go.Proofs.YtaicamjpcnhjcaaW.PrintMore
set_option linter.unusedVariables false
set_option linter.unusedSimpArgs false
def isVal (x : Int) : Prop := 0 ≤ x ∧ x ≤ 255
def opv (op a b : Int) : Int := if op = 3 then (a + b) % 256 else if op = 4 then (a - b) % 256 else if op = 5 then (a * b) % 256 else if a < b then 1 else 0
theorem opv_val (op a b : Int) : isVal (opv op a b) := by
  unfold opv isVal
  split
  · omega
  · split
    · omega
    · split
      · generalize a * b = c; omega
      · split <;> omega
theorem mul_bd {a b : Int} (ha : isVal a) (hb : isVal b) : 0 ≤ a * b ∧ a * b ≤ 65025 := by
  obtain ⟨a0, a1⟩ := ha
  obtain ⟨b0, b1⟩ := hb
  refine ⟨Int.mul_nonneg a0 b0, ?_⟩
  have h1 : a * b ≤ 255 * b := Int.mul_le_mul_of_nonneg_right a1 b0
  omega
theorem refOp_ev {op a b : Int} (ha : isVal a) (hb : isVal b) (h3 : 3 ≤ op) (h6 : op ≤ 6) : Ev (fun k => codemasonref_Op.f k op a b) (opv op a b) := by
  have hm := mul_bd ha hb
  obtain ⟨a0, a1⟩ := ha
  obtain ⟨b0, b1⟩ := hb
  have tm : ∀ x : Int, 0 ≤ x → Int.tmod x 256 = x % 256 := fun x hx => Int.tmod_eq_emod_of_nonneg hx
  unfold codemasonref_Op.f opv
  generalize hc : a * b = c at hm
  refine ev_ite (fun h => ?_) (fun h => ?_)
  all_goals
    refine ev_succ ?_
    simp only [codemasonref_Op.j0]
    refine ev_ite (fun h2 => ?_) (fun h2 => ?_)
    all_goals
      refine ev_succ ?_
      simp only [codemasonref_Op.j1, hc]
      refine ev_ite (fun h4 => ev_ite (fun h5 => ev_ite (fun h7 => ev_some ?_) (fun h7 => ev_some ?_)) (fun h5 => ev_some ?_)) (fun h4 => ev_ite (fun h5 => ev_ite (fun h7 => ev_some ?_) (fun h7 => ev_some ?_)) (fun h5 => ev_some ?_))
      all_goals first
        | (exfalso; omega)
        | (simp only [h, h2, h4, h5, h7, if_true, if_false, eq_self]; rfl)
        | (subst_vars; simp (config := { decide := true }) only [if_true, if_false]; rw [wrap_in (by omega) (by omega), tm _ (by omega)])
        | (subst_vars; simp (config := { decide := true }) only [if_true, if_false]; rw [wrap_in (by rw [wrap_in (by omega) (by omega)]; omega) (by rw [wrap_in (by omega) (by omega)]; omega), wrap_in (by omega) (by omega), tm _ (by omega)]; omega)
        | (subst_vars; simp (config := { decide := true }) only [*, if_true, if_false])
def stepV (s : S111) (v : List Int) : Int := if s.f0 = 1 then s.f4 else if s.f0 = 2 then rd v s.f4 else opv s.f0 (rd v s.f2) (rd v s.f3)
def doStep (v : List Int) (s : S111) : List Int := v.set s.f1.toNat (stepV s v)
def doing (l : List S111) (v : List Int) : List Int := l.foldl doStep v
def vals (n : Int) (v : List Int) : Prop := (v.length : Int) = n ∧ ∀ x ∈ v, isVal x
theorem vals_rd {n : Int} {v : List Int} (h : vals n v) (i : Int) : isVal (rd v i) := by
  unfold rd
  rw [List.getD_eq_getElem?_getD]
  cases e : v[i.toNat]? with
  | none => exact ⟨by decide, by decide⟩
  | some x => exact h.2 x (List.mem_of_getElem? e)
theorem vals_set {n : Int} {v : List Int} (h : vals n v) (i : Nat) {x : Int} (hx : isVal x) : vals n (v.set i x) :=
  ⟨by rw [List.length_set]; exact h.1, fun y hy => by
    rcases List.mem_or_eq_of_mem_set hy with h1 | h1
    · exact h.2 y h1
    · exact h1 ▸ hx⟩
def okStep (n : Int) (s : S111) : Prop := stepE n s.f0 s.f1 s.f2 s.f3 s.f4 = 0
theorem okStep_parts {n : Int} {s : S111} (h : okStep n s) : 1 ≤ s.f0 ∧ s.f0 ≤ 6 ∧ (0 ≤ s.f1 ∧ s.f1 < n) ∧ (s.f0 = 1 → 0 ≤ s.f4 ∧ s.f4 ≤ 255) ∧ (s.f0 = 2 → 0 ≤ s.f4 ∧ s.f4 < n) ∧ (2 < s.f0 → (0 ≤ s.f2 ∧ s.f2 < n) ∧ 0 ≤ s.f3 ∧ s.f3 < n) := by
  unfold okStep stepE insB at h
  simp only [Bool.and_eq_false_iff, decide_eq_false_iff_not] at h
  split at h
  · exact absurd h (by decide)
  · split at h
    · exact absurd h (by decide)
    · split at h
      · exact absurd h (by decide)
      · refine ⟨by omega, by omega, ⟨by omega, by omega⟩, fun _ => ⟨by omega, by omega⟩, fun _ => ⟨by omega, by omega⟩, fun _ => ⟨⟨by omega, by omega⟩, by omega, by omega⟩⟩
theorem stepV_val {n : Int} {s : S111} (h : okStep n s) {v : List Int} (hv : vals n v) : isVal (stepV s v) := by
  obtain ⟨h1, h2, h3, h4, h5, h6⟩ := okStep_parts h
  unfold stepV
  split
  · exact h4 ‹_›
  · split
    · exact vals_rd hv _
    · exact opv_val _ _ _
theorem doStep_vals {n : Int} {s : S111} (h : okStep n s) {v : List Int} (hv : vals n v) : vals n (doStep v s) := vals_set hv _ (stepV_val h hv)
theorem steps_ok {n : Int} : ∀ {l : List S111}, stepsErr n l = 0 → ∀ s ∈ l, okStep n s
  | [], _, s, hs => absurd hs (by simp)
  | x :: t, h, s, hs => by
    rw [stepsErr] at h
    by_cases e : stepE n x.f0 x.f1 x.f2 x.f3 x.f4 ≠ 0
    · rw [if_pos e] at h; exact absurd h e
    · rw [if_neg e] at h
      rcases List.mem_cons.1 hs with rfl | hs
      · exact by simpa [okStep] using e
      · exact steps_ok h s hs
theorem steps_err {n : Int} : ∀ {l : List S111}, (∀ s ∈ l, okStep n s) → stepsErr n l = 0
  | [], _ => rfl
  | x :: t, h => by
    rw [stepsErr, if_neg (by simpa [okStep] using h x (by simp))]
    exact steps_err (fun s hs => h s (List.mem_cons_of_mem _ hs))
theorem doing_cons (s : S111) (l : List S111) (v : List Int) : doing (s :: l) v = doing l (doStep v s) := rfl
theorem doing_vals {n : Int} : ∀ {l : List S111} {v : List Int}, (∀ s ∈ l, okStep n s) → vals n v → vals n (doing l v)
  | [], v, _, hv => hv
  | s :: l, v, h, hv => doing_vals (l := l) (fun x hx => h x (List.mem_cons_of_mem _ hx)) (doStep_vals (h s (by simp)) hv)
theorem doing_at {l : List S111} {i : Nat} (h : i < l.length) (v : List Int) : doing (l.drop i) v = doing (l.drop (i + 1)) (doStep v (rd_T111 l i)) := by rw [drop_at z111 h]; rfl
theorem mem_at {α : Type} {d : α} {l : List α} {i : Nat} (h : i < l.length) : l.getD i d ∈ l := by
  rw [List.getD_eq_getElem?_getD, List.getElem?_eq_getElem h]; exact List.getElem_mem h
theorem refDoing_ev {n : Int} {l : List S111} (hl : l.length ≤ 9223372036854775807) (h : ∀ s ∈ l, okStep n s) {v : List Int} (hv : vals n v) (hn : n < 17592186044416) : Ev (fun k => codemasonref_Doing.f k l v) (doing l v) := by
  have key := down_ind (n := l.length) (P := fun i => ∀ v, vals n v → Ev (fun k => codemasonref_Doing.l0 k v l l.length i) (doing (l.drop i) v)) ?_ ?_ 0 (by omega)
  · unfold codemasonref_Doing.f
    simp only [Option.bind_some, List.length_nil, List.nil_append]
    exact ev_pos (by have := hv.1; omega) (key v hv)
  · intro v hv
    refine ev_succ ?_
    simp only [codemasonref_Doing.l0, List.drop_length]
    exact ev_neg (by omega) (Ev.now _)
  · intro i hi ih v hv
    have hs := h _ (mem_at (d := z111) hi)
    rw [doing_at hi]
    refine ev_succ ?_
    simp only [codemasonref_Doing.l0, wrap_nat hi hl]
    rw [← rdT111_nat] at hs
    generalize rd_T111 l i = s at hs
    obtain ⟨h1, h2, h3, h4, h5, h6⟩ := okStep_parts hs
    replace ih := ih _ (doStep_vals hs hv)
    have hlen := hv.1
    have t1 := vals_rd hv s.f2
    have t2 := vals_rd hv s.f3
    refine ev_pos (by omega) (ev_pos (by omega) (ev_pos (by omega) (ev_ite (fun c => ev_pos (by omega) (ev_pos (by omega) (ev_neg (by omega) (ev_pos (by omega) (ev_pos (by omega) ?_))))) (fun c => ev_ite (fun c2 => ev_pos (by omega) (ev_pos (by omega) (ev_pos (by omega) (ev_pos (by omega) (Ev.bind (refOp_ev t1 t2 (by omega) (by omega)) (ev_pos (by omega) (ev_pos (by omega) ?_))))))) (fun c2 => ev_pos (by omega) (ev_pos (by omega) ?_))))))
    · simpa only [doStep, stepV, if_neg (show ¬ s.f0 = 1 by omega), if_pos c] using ih
    · simpa only [doStep, stepV, if_neg (show ¬ s.f0 = 1 by omega), if_neg c] using ih
    · simpa only [doStep, stepV, if_pos (show s.f0 = 1 by omega)] using ih
end Go.Proofs.Ytaicamjpcnhjcaa.PA
namespace Go.Proofs.Ytaicamjpcnhjcaa.PA
open Go.RowKit Go.Proofs.YtaicamjpcnhjcaaW.PrintWords Go.Proofs.YtaicamjpcnhjcaaW.PrintLast Go.Proofs.YtaicamjpcnhjcaaW.PrintMore
set_option linter.unusedVariables false
set_option linter.unusedSimpArgs false
theorem ints_ev (a b : List Int) (ha : a.length ≤ 9223372036854775807) : Ev (fun k => codemasonref_Ints.f k a b) (decide (a = b)) := by
  unfold codemasonref_Ints.f
  refine ev_ite (fun hl => ?_) (fun hl => ev_some (by rw [decide_eq_false (fun e => hl (by rw [e]))]))
  have hl' : a.length = b.length := by omega
  have key := down_ind (n := a.length) (P := fun i => Ev (fun k => codemasonref_Ints.l0 k a b i) (decide (a.drop i = b.drop i))) ?_ ?_ 0 (by omega)
  · exact key
  · refine ev_succ ?_
    simp only [codemasonref_Ints.l0]
    refine ev_neg (by omega) (ev_some ?_)
    rw [List.drop_length, hl', List.drop_length]; rfl
  · intro i hi ih
    refine ev_succ ?_
    simp only [codemasonref_Ints.l0, wrap_nat hi ha, drop_at 0 hi, drop_at 0 (show i < b.length by omega), ← rd_nat, List.cons.injEq]
    refine ev_pos (by omega) (ev_pos (by omega) (ev_pos (by omega) (ev_ite (fun h => ev_eq ih ?_) (fun h => ev_some ?_))))
    · simp [h]
    · simp [h]
theorem ints_self (a : List Int) (ha : a.length ≤ 9223372036854775807) : Ev (fun k => codemasonref_Ints.f k a a) true := ev_eq (ints_ev a a ha) (by simp)
theorem haveErr_zero {v : Int} {l : List Int} (h : haveErr v l = 0) : vals v l := by
  unfold haveErr at h
  by_cases h1 : (l.length : Int) ≠ v
  · rw [if_pos h1] at h; exact absurd h (by decide)
  · rw [if_neg h1] at h
    by_cases h2 : (l.all fun x => decide (0 ≤ x ∧ x ≤ 255)) = true
    · exact ⟨by omega, fun x hx => by have := List.all_eq_true.1 h2 x hx; simpa [isVal] using this⟩
    · rw [if_neg h2] at h; exact absurd h (by decide)
end Go.Proofs.Ytaicamjpcnhjcaa.PA
