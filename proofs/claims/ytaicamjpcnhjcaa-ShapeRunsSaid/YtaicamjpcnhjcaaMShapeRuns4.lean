/- Texts of one proof, merged: PA35, Pu0, PA52, Pu3, PA71, Pu2, PA81, PA112, PA50, PA13. -/
import Derived.Test.YtaicamjpcnhjcaaMShapeRuns3
namespace Go.Proofs.Ytaicamjpcnhjcaa.PA
open Go.RowKit Go.Proofs.YtaicamjpcnhjcaaW.PrintWords Go.Proofs.YtaicamjpcnhjcaaW.PrintLast Go.Proofs.YtaicamjpcnhjcaaW.PrintMore
set_option linter.unusedVariables false
set_option linter.unusedSimpArgs false
mutual
def codemasonref_Shaped.l0 : Nat → List Int → Int → List (S127) → Int → Int → Option (List Int × Int)
  | 0, _, _, _, _, _ => none
  | k + 1, x1, x2, x10, x11, x12 => if x12 < x11 then (if 0 ≤ x12 then (if x12 < (x10.length : Int) then (if ((rd_T127 x10 x12).f0) = 1 then ((codemasonref_Doing.f k ((rd_T127 x10 x12).f2) x1).bind fun t425 => (if x2 < 0 then (some (t425, x2)) else (codemasonref_Shaped.l0 k t425 x2 x10 x11 (wrap64 (x12 + 1))))) else (if ((rd_T127 x10 x12).f0) = 2 then (if 0 ≤ ((rd_T127 x10 x12).f1) then (if ((rd_T127 x10 x12).f1) < (x1.length : Int) then (if (rd x1 ((rd_T127 x10 x12).f1)) = 0 then ((codemasonref_Shaped.f k ((rd_T127 x10 x12).f4) x1 x2).bind fun bt429 => (if bt429.2 < 0 then (some (bt429.1, bt429.2)) else (codemasonref_Shaped.l0 k bt429.1 bt429.2 x10 x11 (wrap64 (x12 + 1))))) else ((codemasonref_Shaped.f k ((rd_T127 x10 x12).f3) x1 x2).bind fun bt433 => (if bt433.2 < 0 then (some (bt433.1, bt433.2)) else (codemasonref_Shaped.l0 k bt433.1 bt433.2 x10 x11 (wrap64 (x12 + 1)))))) else (none)) else (none)) else (if ((rd_T127 x10 x12).f0) = 3 then (codemasonref_Shaped.l1 k x1 x2 x10 x11 x12 ((rd_T127 x10 x12).f0) ((rd_T127 x10 x12).f1) ((rd_T127 x10 x12).f2) ((rd_T127 x10 x12).f3) ((rd_T127 x10 x12).f4)) else (if x2 < 0 then (some (x1, x2)) else (codemasonref_Shaped.l0 k x1 x2 x10 x11 (wrap64 (x12 + 1))))))) else (none)) else (none)) else (some (x1, x2))
def codemasonref_Shaped.l1 : Nat → List Int → Int → List (S127) → Int → Int → Int → Int → List (S111) → List (S127) → List (S127) → Option (List Int × Int)
  | 0, _, _, _, _, _, _, _, _, _, _ => none
  | k + 1, x1, x2, x10, x11, x12, x425000, x425001, x425002, x425003, x425004 => if x2 ≥ 0 then (if 0 ≤ x425001 then (if x425001 < (x1.length : Int) then (codemasonref_Shaped.j2 k x1 x2 x10 x11 x12 ((rd x1 x425001) != 0) x425000 x425001 x425002 x425003 x425004) else (none)) else (none)) else (codemasonref_Shaped.j2 k x1 x2 x10 x11 x12 false x425000 x425001 x425002 x425003 x425004)
def codemasonref_Shaped.j2 : Nat → List Int → Int → List (S127) → Int → Int → Bool → Int → Int → List (S111) → List (S127) → List (S127) → Option (List Int × Int)
  | 0, _, _, _, _, _, _, _, _, _, _, _ => none
  | k + 1, x1, x2, x10, x11, x12, x59, x425000, x425001, x425002, x425003, x425004 => if x59 = true then (if (wrap64 (x2 - 1)) ≥ 0 then ((codemasonref_Shaped.f k x425003 x1 (wrap64 (x2 - 1))).bind fun bt438 => (codemasonref_Shaped.l1 k bt438.1 bt438.2 x10 x11 x12 x425000 x425001 x425002 x425003 x425004)) else (codemasonref_Shaped.l1 k x1 (wrap64 (x2 - 1)) x10 x11 x12 x425000 x425001 x425002 x425003 x425004)) else (if x2 < 0 then (some (x1, x2)) else (codemasonref_Shaped.l0 k x1 x2 x10 x11 (wrap64 (x12 + 1))))
def codemasonref_Shaped.f : Nat → List (S127) → List Int → Int → Option (List Int × Int)
  | 0, _, _, _ => none
  | k + 1, l0, l1, a2 => codemasonref_Shaped.l0 k l1 a2 l0 (l0.length : Int) 0
end
theorem codemasonref_Shaped.mono_l : ∀ k, (∀ y0 y1 y2, LeO (codemasonref_Shaped.f k y0 y1 y2) (codemasonref_Shaped.f (k + 1) y0 y1 y2)) ∧ (∀ y0 y1 y2 y3 y4, LeO (codemasonref_Shaped.l0 k y0 y1 y2 y3 y4) (codemasonref_Shaped.l0 (k + 1) y0 y1 y2 y3 y4)) ∧ (∀ y0 y1 y2 y3 y4 y5 y6 y7 y8 y9, LeO (codemasonref_Shaped.l1 k y0 y1 y2 y3 y4 y5 y6 y7 y8 y9) (codemasonref_Shaped.l1 (k + 1) y0 y1 y2 y3 y4 y5 y6 y7 y8 y9)) ∧ (∀ y0 y1 y2 y3 y4 y5 y6 y7 y8 y9 y10, LeO (codemasonref_Shaped.j2 k y0 y1 y2 y3 y4 y5 y6 y7 y8 y9 y10) (codemasonref_Shaped.j2 (k + 1) y0 y1 y2 y3 y4 y5 y6 y7 y8 y9 y10))
  | 0 => ⟨fun _ _ _ r h => by simp [codemasonref_Shaped.f] at h, fun _ _ _ _ _ r h => by simp [codemasonref_Shaped.l0] at h, fun _ _ _ _ _ _ _ _ _ _ r h => by simp [codemasonref_Shaped.l1] at h, fun _ _ _ _ _ _ _ _ _ _ _ r h => by simp [codemasonref_Shaped.j2] at h⟩
  | k + 1 => by
    obtain ⟨ih0, ih1, ih2, ih3⟩ := codemasonref_Shaped.mono_l k
    refine ⟨?_, ?_, ?_, ?_⟩
    · intro y0 y1 y2
      unfold codemasonref_Shaped.f
      repeat' first
      | (with_reducible exact ih0 _ _ _)
      | (with_reducible exact ih1 _ _ _ _ _)
      | (with_reducible exact ih2 _ _ _ _ _ _ _ _ _ _)
      | (with_reducible exact ih3 _ _ _ _ _ _ _ _ _ _ _)
      | (with_reducible exact codemasonref_Doing.mono _ _ _)
      | (with_reducible exact LeO.refl _)
      | (with_reducible exact LeO.none _)
      | (with_reducible refine LeO.ite ?_ ?_)
      | (with_reducible refine LeO.bind ?_ (fun _ => ?_))
      | exact ih0 _ _ _
      | exact ih1 _ _ _ _ _
      | exact ih2 _ _ _ _ _ _ _ _ _ _
      | exact ih3 _ _ _ _ _ _ _ _ _ _ _
      | exact codemasonref_Doing.mono _ _ _
      | exact LeO.none _
      | refine LeO.ite ?_ ?_
      | refine LeO.bind ?_ (fun _ => ?_)
    · intro y0 y1 y2 y3 y4
      unfold codemasonref_Shaped.l0
      repeat' first
      | (with_reducible exact ih0 _ _ _)
      | (with_reducible exact ih1 _ _ _ _ _)
      | (with_reducible exact ih2 _ _ _ _ _ _ _ _ _ _)
      | (with_reducible exact ih3 _ _ _ _ _ _ _ _ _ _ _)
      | (with_reducible exact codemasonref_Doing.mono _ _ _)
      | (with_reducible exact LeO.refl _)
      | (with_reducible exact LeO.none _)
      | (with_reducible refine LeO.ite ?_ ?_)
      | (with_reducible refine LeO.bind ?_ (fun _ => ?_))
      | exact ih0 _ _ _
      | exact ih1 _ _ _ _ _
      | exact ih2 _ _ _ _ _ _ _ _ _ _
      | exact ih3 _ _ _ _ _ _ _ _ _ _ _
      | exact codemasonref_Doing.mono _ _ _
      | exact LeO.none _
      | refine LeO.ite ?_ ?_
      | refine LeO.bind ?_ (fun _ => ?_)
    · intro y0 y1 y2 y3 y4 y5 y6 y7 y8 y9
      unfold codemasonref_Shaped.l1
      repeat' first
      | (with_reducible exact ih0 _ _ _)
      | (with_reducible exact ih1 _ _ _ _ _)
      | (with_reducible exact ih2 _ _ _ _ _ _ _ _ _ _)
      | (with_reducible exact ih3 _ _ _ _ _ _ _ _ _ _ _)
      | (with_reducible exact codemasonref_Doing.mono _ _ _)
      | (with_reducible exact LeO.refl _)
      | (with_reducible exact LeO.none _)
      | (with_reducible refine LeO.ite ?_ ?_)
      | (with_reducible refine LeO.bind ?_ (fun _ => ?_))
      | exact ih0 _ _ _
      | exact ih1 _ _ _ _ _
      | exact ih2 _ _ _ _ _ _ _ _ _ _
      | exact ih3 _ _ _ _ _ _ _ _ _ _ _
      | exact codemasonref_Doing.mono _ _ _
      | exact LeO.none _
      | refine LeO.ite ?_ ?_
      | refine LeO.bind ?_ (fun _ => ?_)
    · intro y0 y1 y2 y3 y4 y5 y6 y7 y8 y9 y10
      unfold codemasonref_Shaped.j2
      repeat' first
      | (with_reducible exact ih0 _ _ _)
      | (with_reducible exact ih1 _ _ _ _ _)
      | (with_reducible exact ih2 _ _ _ _ _ _ _ _ _ _)
      | (with_reducible exact ih3 _ _ _ _ _ _ _ _ _ _ _)
      | (with_reducible exact codemasonref_Doing.mono _ _ _)
      | (with_reducible exact LeO.refl _)
      | (with_reducible exact LeO.none _)
      | (with_reducible refine LeO.ite ?_ ?_)
      | (with_reducible refine LeO.bind ?_ (fun _ => ?_))
      | exact ih0 _ _ _
      | exact ih1 _ _ _ _ _
      | exact ih2 _ _ _ _ _ _ _ _ _ _
      | exact ih3 _ _ _ _ _ _ _ _ _ _ _
      | exact codemasonref_Doing.mono _ _ _
      | exact LeO.none _
      | refine LeO.ite ?_ ?_
      | refine LeO.bind ?_ (fun _ => ?_)
theorem codemasonref_Shaped.mono : ∀ a0 a1 a2 k, LeO (codemasonref_Shaped.f k a0 a1 a2) (codemasonref_Shaped.f (k + 1) a0 a1 a2) := by
  intro a0 a1 a2 k
  obtain ⟨ih0, ih1, ih2, ih3⟩ := codemasonref_Shaped.mono_l k
  exact ih0 a0 a1 a2
set_option maxHeartbeats 8000000 in
set_option maxRecDepth 100000 in
theorem codemasonref_Shaped.calls (k : Nat) : ∀ (A0 : Option Addr) (c0 : Nat) (l0 : List (S127)) (P1_ : Nat → Prop) (A1 : Option Addr) (c1 : Nat) (l1 : List Int) (a2 : Int) (r1 : List Int) (r2 : Int) (w : World) (hr0 : Kd.C k127 w A0 l0.length l0) (hc0 : l0.length ≤ c0) (hs1 : Kd.V (Kd.int .i64) 3 w w.heap.size (fun k_ => P1_ k_) (.slice A1 l1.length c1) l1) (h : codemasonref_Shaped.f k l0 l1 a2 = some (r1, r2)),
    Calls Try.prog 35 #[.slice A0 l0.length c0, .slice A1 l1.length c1, .int .i64 a2] w fun e w' => ∃ v0_ : Value, e = .returned (.tuple #[v0_, .int .i64 r2]) ∧ Kd.V (Kd.int .i64) 3 w' w.heap.size (fun k_ => (P1_ k_ ∨ w.heap.size ≤ k_)) v0_ r1 ∧ Below w.heap.size w w' := by
  induction k using Nat.strongRecOn with
  | _ k ih =>
  intro A0 c0 l0 P1_ A1 c1 l1 a2 r1 r2 w hr0 hc0 hs1 h
  cases k with
  | zero => exact absurd h (by simp [codemasonref_Shaped.f])
  | succ k =>
  simp only [codemasonref_Shaped.f] at h
  have hu127 := Try.underlying127
  have HR0 := Aside0.mk hr0
  have HC0 := Aside0.mk hc0
  clear hr0 hc0
  have HO1 := Aside0.mk (show Kd.V (Kd.int .i64) 3 w w.heap.size (fun k_ => (P1_ k_ ∨ w.heap.size ≤ k_)) (.slice A1 l1.length c1) l1 from Kd.V_mono hs1 (fun k_ hk => .inl hk))
  have HB := Aside0.mk (Below.refl w.heap.size w)
  have H : (codemasonref_Shaped.l0 k l1 a2 l0 (l0.length : Int) 0) = some (r1, r2) := h
  clear h
  have H' := Aside0.mk H
  clear H
  go_enter Try.func35, Try.ntmps35
  go_wp2
  go_loopg [1, 2, 12] k (fun kq v1 v2 v12 w' => ∃ (x1_1 : List Int) (x2_1 : Int) (x12_1 : Int), v2 = .int .i64 x2_1 ∧ v12 = .int .i64 x12_1 ∧ Aside0 (codemasonref_Shaped.l0 kq x1_1 x2_1 l0 (l0.length : Int) x12_1 = some (r1, r2)) ∧ Aside0 (kq ≤ k) ∧ Aside0 (Kd.V (Kd.int .i64) 3 w' w.heap.size (fun k_ => (P1_ k_ ∨ w.heap.size ≤ k_)) v1 x1_1) ∧ Aside0 (Below w.heap.size w w'))
  case atStart => exact ⟨(l1), (a2), (0), (by first | rfl | (simp; done) | (simp [*]; done)), (by first | rfl | (simp; done) | (simp [*]; done)), H', ⟨Nat.le_refl _⟩, ⟨by (with_reducible repeat (first | apply Kd.V_alloc | apply Kd.V_drewN | apply Kd.V_drew)); exact HO1.out⟩, ⟨by repeat (first | (with_reducible first | exact HB.out | apply below_alloc | apply pw_below_drewN | apply below_drew1) | exact HB.out)⟩⟩
  case round =>
    clear H'
    try clear c1
    try clear p2
    try clear c3
    obtain ⟨x1_1, x2_1, x12_1, rfl, rfl, HA, HK1, HO_1, HB⟩ := hrel
    cases gk with
    | zero => exact absurd HA.out (by simp [codemasonref_Shaped.l0])
    | succ k1 =>
      have H := HA.out
      clear HA
      simp only [codemasonref_Shaped.l0] at H
      by_cases c4 : x12_1 < (l0.length : Int)
      · rw [if_pos c4] at H
        have c4b0 : decide (x12_1 < (l0.length : Int)) = true := decide_eq_true c4
        clear c4
        by_cases c5 : 0 ≤ x12_1
        · rw [if_pos c5] at H
          have c5b0 : decide (0 ≤ x12_1) = true := decide_eq_true c5
          clear c5
          by_cases c6 : x12_1 < (l0.length : Int)
          · rw [if_pos c6] at H
            have c6b0 : decide (x12_1 < (l0.length : Int)) = true := decide_eq_true c6
            clear c6
            by_cases c7 : ((rd_T127 l0 x12_1).f0) = 1
            · rw [if_pos c7] at H
              have c7b0 : (((rd_T127 l0 x12_1).f0) == 1) = true := beq_iff_eq.mpr c7
              have c7b1 : (((rd_T127 l0 x12_1).f0) != 1) = false := bne_eq_false_iff_eq.mpr c7
              clear c7
              replace H := Option.bind_eq_some_iff.mp H
              obtain ⟨t425, A80, H⟩ := H
              replace H : (if x2_1 < 0 then (some (t425, x2_1)) else (codemasonref_Shaped.l0 k1 t425 x2_1 l0 (l0.length : Int) (wrap64 (x12_1 + 1)))) = some (r1, r2) := H
              have A8 := Aside0.mk A80
              clear A80
              by_cases c9 : x2_1 < 0
              · rw [if_pos c9] at H
                have c9b0 : decide (x2_1 < 0) = true := decide_eq_true c9
                clear c9
                simp only [Option.some.injEq, Prod.mk.injEq] at H
                obtain ⟨rfl, rfl⟩ := H
                have p423 : 0 ≤ (x12_1 : Int) := of_decide_eq_true (by first | (with_reducible assumption) | assumption)
                have q423 : x12_1 < (l0.length : Int) := of_decide_eq_true (by first | (with_reducible assumption) | assumption)
                obtain ⟨ad423, A423_2, c423_2, A423_3, c423_3, A423_4, c423_4, e423, hx423_0, hx423_1, hx423_2, hx423_3, hx423_4, hl423_2, hi423_2, hl423_3, hi423_3, hl423_4, hi423_4⟩ := at_T127 HR0.out x12_1 p423 q423
                cases e423
                replace hx423_0 := (HB.out.cell (World.block_lt_of_cell? w _ hx423_0)).trans hx423_0
                replace hx423_1 := (HB.out.cell (World.block_lt_of_cell? w _ hx423_1)).trans hx423_1
                replace hx423_2 := (HB.out.cell (World.block_lt_of_cell? w _ hx423_2)).trans hx423_2
                replace hx423_3 := (HB.out.cell (World.block_lt_of_cell? w _ hx423_3)).trans hx423_3
                replace hx423_4 := (HB.out.cell (World.block_lt_of_cell? w _ hx423_4)).trans hx423_4
                have HR423_2 := Aside0.mk hi423_2
                have HC423_2 := Aside0.mk hl423_2
                clear hi423_2 hl423_2
                have HR423_3 := Aside0.mk hi423_3
                have HC423_3 := Aside0.mk hl423_3
                clear hi423_3 hl423_3
                have HR423_4 := Aside0.mk hi423_4
                have HC423_4 := Aside0.mk hl423_4
                clear hi423_4 hl423_4
                replace p423 := eq_true p423
                replace q423 := eq_true q423
                go_wp2_with (first | ((with_reducible refine gate_dst (N := 9) rfl ?_); refine box_event ?hg (N := 9) ?hd (cs := #[.int .i64 0, .int .i64 0, .slice none 0 0, .slice none 0 0, .slice none 0 0]) (t := 127) ?hr ?_; (case hd => rfl); (case hg => rfl); (case hr => first | (go_simp; done) | (go_simp; rfl)); intro gb424 hg w10 hbox hb; have n0_ := Aside0.mk (Kd.V_below (Kd.V_elderB (by (with_reducible repeat (first | apply Kd.V_alloc | apply Kd.V_drewN | apply Kd.V_drew)); exact HO_1.out) gb424 (Nat.le_of_eq hg.symm)) hb); have n1_ := Aside0.mk (below_step (by repeat (first | (with_reducible first | exact HB.out | apply below_alloc | apply pw_below_drewN | apply below_drew1) | exact HB.out)) hb); have n2_ := Aside0.mk (hbox); have n3_ := Aside0.mk ((by rw [hg]; exact (below_size (by repeat (first | (with_reducible first | exact HB.out | apply below_alloc | apply pw_below_drewN | apply below_drew1) | exact HB.out))) : w.heap.size ≤ gb424)); have n4_ := Aside0.mk ((by rw [hg]; exact (below_size (by repeat (first | (with_reducible first | exact HB.out | apply below_alloc | apply pw_below_drewN | apply below_drew1) | exact HB.out))) : w.heap.size ≤ gb424)); clear HO_1; clear HB; have HO_1 := n0_; have HB := n1_; have BK424 := n2_; have GW424 := n3_; have GE424 := n4_; clear n0_ n1_ n2_ n3_ n4_; clear hb hbox hg; have hcz11_0 : w10.cell? ⟨gb424, 0, none⟩ = some (.int .i64 0) := (blk_cell BK424.out 0).trans rfl; have hcz11_1 : w10.cell? ⟨gb424, 1, none⟩ = some (.int .i64 0) := (blk_cell BK424.out 1).trans rfl; have hcz11_2 : w10.cell? ⟨gb424, 2, none⟩ = some (.slice none 0 0) := (blk_cell BK424.out 2).trans rfl; have hcz11_3 : w10.cell? ⟨gb424, 3, none⟩ = some (.slice none 0 0) := (blk_cell BK424.out 3).trans rfl; have hcz11_4 : w10.cell? ⟨gb424, 4, none⟩ = some (.slice none 0 0) := (blk_cell BK424.out 4).trans rfl; have hfz11_0 := blk_frozen BK424.out 0; have hfz11_1 := blk_frozen BK424.out 1; have hfz11_2 := blk_frozen BK424.out 2; have hfz11_3 := blk_frozen BK424.out 3; have hfz11_4 := blk_frozen BK424.out 4; obtain ⟨Ao12, co12, eo12⟩ := Kd.V_slice HO_1.out; subst eo12) | ((with_reducible refine gate_callee (f := 83) rfl ?_); refine goesL_ (some 23) rfl rfl Try.func83 (by kernel_rfl) rfl #[.slice A423_2 ((rd_T127 l0 x12_1).f2).length c423_2, .slice Ao12 x1_1.length co12] rfl (by (try simp only [List.map_toArray, List.map_cons, List.map_nil]); first | done | rfl | (simp only [List.length_drop, List.length_take]; rfl)) ?_; (with_reducible refine (codemasonref_Doing.calls k1 _ _ ((rd_T127 l0 x12_1).f2) _ _ x1_1 t425 _ ?side1 ?side2 ?side3 ?side4 A8.out).mono ?_); (case side1 => exact Kd.C_below HR423_2.out (by repeat (first | (with_reducible first | exact HB.out | apply below_alloc | apply pw_below_drewN | apply below_drew1 | refine below_set ?_ GE424.out) | exact HB.out))); (case side2 => exact HC423_2.out); (case side3 => refine (Kd.V_reads' (e := 3) (base := w.heap.size) (ok := fun k_ => ((P1_ k_ ∨ w.heap.size ≤ k_) ∧ k_ ≠ gb424)) (n := x1_1.length) (c := co12) ?_).2.2; exact (by (with_reducible repeat (first | apply Kd.V_alloc | apply Kd.V_drewN | apply Kd.V_drew)); exact (Kd.V_mono (Kd.V_far (p := ⟨gb424, 4, none⟩) (Kd.V_far (p := ⟨gb424, 3, none⟩) (Kd.V_far (p := ⟨gb424, 2, none⟩) (Kd.V_far (p := ⟨gb424, 1, none⟩) (Kd.V_far (p := ⟨gb424, 0, none⟩) (Kd.V_mono HO_1.out (fun k_ hk => (⟨hk, hk.2⟩ : _ ∧ k_ ≠ gb424))) (fun _ hk => hk.2) (.int .i64 ((rd_T127 l0 x12_1).f0))) (fun _ hk => hk.2) (.int .i64 ((rd_T127 l0 x12_1).f1))) (fun _ hk => hk.2) (.slice A423_2 ((rd_T127 l0 x12_1).f2).length c423_2)) (fun _ hk => hk.2) (.slice A423_3 ((rd_T127 l0 x12_1).f3).length c423_3)) (fun _ hk => hk.2) (.slice A423_4 ((rd_T127 l0 x12_1).f4).length c423_4)) (fun _ h_ => h_.1)))); (case side4 => exact (Kd.V_reads' HO_1.out).2.1); rintro e w13 ⟨v426, rfl, ho0, hb⟩; refine ⟨_, rfl, ?_⟩; have n0_ := Aside0.mk (Kd.V_elder' (by (with_reducible repeat (first | apply Kd.V_alloc | apply Kd.V_drewN | apply Kd.V_drew)); exact (Kd.V_mono (Kd.V_far (p := ⟨gb424, 4, none⟩) (Kd.V_far (p := ⟨gb424, 3, none⟩) (Kd.V_far (p := ⟨gb424, 2, none⟩) (Kd.V_far (p := ⟨gb424, 1, none⟩) (Kd.V_far (p := ⟨gb424, 0, none⟩) (Kd.V_mono HO_1.out (fun k_ hk => (⟨hk, hk.2⟩ : _ ∧ k_ ≠ gb424))) (fun _ hk => hk.2) (.int .i64 ((rd_T127 l0 x12_1).f0))) (fun _ hk => hk.2) (.int .i64 ((rd_T127 l0 x12_1).f1))) (fun _ hk => hk.2) (.slice A423_2 ((rd_T127 l0 x12_1).f2).length c423_2)) (fun _ hk => hk.2) (.slice A423_3 ((rd_T127 l0 x12_1).f3).length c423_3)) (fun _ hk => hk.2) (.slice A423_4 ((rd_T127 l0 x12_1).f4).length c423_4)) (fun _ h_ => h_.1))) (Kd.R_base ho0) hb); have n1_ := Aside0.mk (Kd.R_lower (Kd.R_newM (M := fun k_ => (w.heap.size ≤ k_)) ho0 (below_size (by repeat (first | (with_reducible first | exact HB.out | apply below_alloc | apply pw_below_drewN | apply below_drew1 | refine below_set ?_ GE424.out) | exact HB.out))) (fun k_ h_ => h_)) (below_size (by repeat (first | (with_reducible first | exact HB.out | apply below_alloc | apply pw_below_drewN | apply below_drew1 | refine below_set ?_ GE424.out) | exact HB.out)))); have n2_ := Aside0.mk (blk_below (g := gb424) (o := .cells #[.int .i64 ((rd_T127 l0 x12_1).f0), .int .i64 ((rd_T127 l0 x12_1).f1), .slice A423_2 ((rd_T127 l0 x12_1).f2).length c423_2, .slice A423_3 ((rd_T127 l0 x12_1).f3).length c423_3, .slice A423_4 ((rd_T127 l0 x12_1).f4).length c423_4] 127 (0, 0)) (by (with_reducible repeat (first | refine blk_drewN ?_ _ | refine blk_drew ?_ | refine blk_alloc ?_ _)); refine blk_put (cs := #[.int .i64 ((rd_T127 l0 x12_1).f0), .int .i64 ((rd_T127 l0 x12_1).f1), .slice A423_2 ((rd_T127 l0 x12_1).f2).length c423_2, .slice A423_3 ((rd_T127 l0 x12_1).f3).length c423_3, .slice none 0 0]) ?_ 4 _ rfl; (with_reducible repeat (first | refine blk_drewN ?_ _ | refine blk_drew ?_ | refine blk_alloc ?_ _)); refine blk_put (cs := #[.int .i64 ((rd_T127 l0 x12_1).f0), .int .i64 ((rd_T127 l0 x12_1).f1), .slice A423_2 ((rd_T127 l0 x12_1).f2).length c423_2, .slice none 0 0, .slice none 0 0]) ?_ 3 _ rfl; (with_reducible repeat (first | refine blk_drewN ?_ _ | refine blk_drew ?_ | refine blk_alloc ?_ _)); refine blk_put (cs := #[.int .i64 ((rd_T127 l0 x12_1).f0), .int .i64 ((rd_T127 l0 x12_1).f1), .slice none 0 0, .slice none 0 0, .slice none 0 0]) ?_ 2 _ rfl; (with_reducible repeat (first | refine blk_drewN ?_ _ | refine blk_drew ?_ | refine blk_alloc ?_ _)); refine blk_put (cs := #[.int .i64 ((rd_T127 l0 x12_1).f0), .int .i64 0, .slice none 0 0, .slice none 0 0, .slice none 0 0]) ?_ 1 _ rfl; (with_reducible repeat (first | refine blk_drewN ?_ _ | refine blk_drew ?_ | refine blk_alloc ?_ _)); refine blk_put (cs := #[.int .i64 0, .int .i64 0, .slice none 0 0, .slice none 0 0, .slice none 0 0]) ?_ 0 _ rfl; (with_reducible repeat (first | refine blk_drewN ?_ _ | refine blk_drew ?_ | refine blk_alloc ?_ _)); exact BK424.out) hb); have n3_ := Aside0.mk (below_step (by repeat (first | (with_reducible first | exact HB.out | apply below_alloc | apply pw_below_drewN | apply below_drew1 | refine below_set ?_ GE424.out) | exact HB.out)) hb); clear HO_1; clear BK424; clear HB; have HO_1 := n0_; have HO427 := n1_; have BK424 := n2_; have HB := n3_; clear n0_ n1_ n2_ n3_; (try clear hb); (try clear hb2); (try clear hk); (try clear hi); (try clear ho0)))
                go_ret2
                exact ⟨_, by first | rfl | (simp [errW_none, errW_some] <;> rfl) | (simp [*, errW_none, errW_some] <;> rfl), Kd.V_mono (Kd.R_V (by (with_reducible repeat (first | apply Kd.R_alloc | apply Kd.R_drewN | apply Kd.R_drew)); exact Kd.R_mono HO427.out (fun _ hk => hk.1))) (fun k_ hk => by first | exact ⟨(.inr (hk.1)), hk.2⟩ | exact (.inr (hk))), by repeat (first | (with_reducible first | exact HB.out | apply below_alloc | apply pw_below_drewN | apply below_drew1 | refine below_set ?_ GE424.out) | exact HB.out)⟩
              · rw [if_neg c9] at H
                have c9b0 : decide (x2_1 < 0) = false := decide_eq_false c9
                clear c9
                have H' := Aside0.mk H
                clear H
                have p423 : 0 ≤ (x12_1 : Int) := of_decide_eq_true (by first | (with_reducible assumption) | assumption)
                have q423 : x12_1 < (l0.length : Int) := of_decide_eq_true (by first | (with_reducible assumption) | assumption)
                obtain ⟨ad423, A423_2, c423_2, A423_3, c423_3, A423_4, c423_4, e423, hx423_0, hx423_1, hx423_2, hx423_3, hx423_4, hl423_2, hi423_2, hl423_3, hi423_3, hl423_4, hi423_4⟩ := at_T127 HR0.out x12_1 p423 q423
                cases e423
                replace hx423_0 := (HB.out.cell (World.block_lt_of_cell? w _ hx423_0)).trans hx423_0
                replace hx423_1 := (HB.out.cell (World.block_lt_of_cell? w _ hx423_1)).trans hx423_1
                replace hx423_2 := (HB.out.cell (World.block_lt_of_cell? w _ hx423_2)).trans hx423_2
                replace hx423_3 := (HB.out.cell (World.block_lt_of_cell? w _ hx423_3)).trans hx423_3
                replace hx423_4 := (HB.out.cell (World.block_lt_of_cell? w _ hx423_4)).trans hx423_4
                have HR423_2 := Aside0.mk hi423_2
                have HC423_2 := Aside0.mk hl423_2
                clear hi423_2 hl423_2
                have HR423_3 := Aside0.mk hi423_3
                have HC423_3 := Aside0.mk hl423_3
                clear hi423_3 hl423_3
                have HR423_4 := Aside0.mk hi423_4
                have HC423_4 := Aside0.mk hl423_4
                clear hi423_4 hl423_4
                replace p423 := eq_true p423
                replace q423 := eq_true q423
                go_wp2_with (first | ((with_reducible refine gate_dst (N := 9) rfl ?_); refine box_event ?hg (N := 9) ?hd (cs := #[.int .i64 0, .int .i64 0, .slice none 0 0, .slice none 0 0, .slice none 0 0]) (t := 127) ?hr ?_; (case hd => rfl); (case hg => rfl); (case hr => first | (go_simp; done) | (go_simp; rfl)); intro gb424 hg w14 hbox hb; have n0_ := Aside0.mk (Kd.V_below (Kd.V_elderB (by (with_reducible repeat (first | apply Kd.V_alloc | apply Kd.V_drewN | apply Kd.V_drew)); exact HO_1.out) gb424 (Nat.le_of_eq hg.symm)) hb); have n1_ := Aside0.mk (below_step (by repeat (first | (with_reducible first | exact HB.out | apply below_alloc | apply pw_below_drewN | apply below_drew1) | exact HB.out)) hb); have n2_ := Aside0.mk (hbox); have n3_ := Aside0.mk ((by rw [hg]; exact (below_size (by repeat (first | (with_reducible first | exact HB.out | apply below_alloc | apply pw_below_drewN | apply below_drew1) | exact HB.out))) : w.heap.size ≤ gb424)); have n4_ := Aside0.mk ((by rw [hg]; exact (below_size (by repeat (first | (with_reducible first | exact HB.out | apply below_alloc | apply pw_below_drewN | apply below_drew1) | exact HB.out))) : w.heap.size ≤ gb424)); clear HO_1; clear HB; have HO_1 := n0_; have HB := n1_; have BK424 := n2_; have GW424 := n3_; have GE424 := n4_; clear n0_ n1_ n2_ n3_ n4_; clear hb hbox hg; have hcz15_0 : w14.cell? ⟨gb424, 0, none⟩ = some (.int .i64 0) := (blk_cell BK424.out 0).trans rfl; have hcz15_1 : w14.cell? ⟨gb424, 1, none⟩ = some (.int .i64 0) := (blk_cell BK424.out 1).trans rfl; have hcz15_2 : w14.cell? ⟨gb424, 2, none⟩ = some (.slice none 0 0) := (blk_cell BK424.out 2).trans rfl; have hcz15_3 : w14.cell? ⟨gb424, 3, none⟩ = some (.slice none 0 0) := (blk_cell BK424.out 3).trans rfl; have hcz15_4 : w14.cell? ⟨gb424, 4, none⟩ = some (.slice none 0 0) := (blk_cell BK424.out 4).trans rfl; have hfz15_0 := blk_frozen BK424.out 0; have hfz15_1 := blk_frozen BK424.out 1; have hfz15_2 := blk_frozen BK424.out 2; have hfz15_3 := blk_frozen BK424.out 3; have hfz15_4 := blk_frozen BK424.out 4; obtain ⟨Ao16, co16, eo16⟩ := Kd.V_slice HO_1.out; subst eo16) | ((with_reducible refine gate_callee (f := 83) rfl ?_); refine goesL_ (some 23) rfl rfl Try.func83 (by kernel_rfl) rfl #[.slice A423_2 ((rd_T127 l0 x12_1).f2).length c423_2, .slice Ao16 x1_1.length co16] rfl (by (try simp only [List.map_toArray, List.map_cons, List.map_nil]); first | done | rfl | (simp only [List.length_drop, List.length_take]; rfl)) ?_; (with_reducible refine (codemasonref_Doing.calls k1 _ _ ((rd_T127 l0 x12_1).f2) _ _ x1_1 t425 _ ?side1 ?side2 ?side3 ?side4 A8.out).mono ?_); (case side1 => exact Kd.C_below HR423_2.out (by repeat (first | (with_reducible first | exact HB.out | apply below_alloc | apply pw_below_drewN | apply below_drew1 | refine below_set ?_ GE424.out) | exact HB.out))); (case side2 => exact HC423_2.out); (case side3 => refine (Kd.V_reads' (e := 3) (base := w.heap.size) (ok := fun k_ => ((P1_ k_ ∨ w.heap.size ≤ k_) ∧ k_ ≠ gb424)) (n := x1_1.length) (c := co16) ?_).2.2; exact (by (with_reducible repeat (first | apply Kd.V_alloc | apply Kd.V_drewN | apply Kd.V_drew)); exact (Kd.V_mono (Kd.V_far (p := ⟨gb424, 4, none⟩) (Kd.V_far (p := ⟨gb424, 3, none⟩) (Kd.V_far (p := ⟨gb424, 2, none⟩) (Kd.V_far (p := ⟨gb424, 1, none⟩) (Kd.V_far (p := ⟨gb424, 0, none⟩) (Kd.V_mono HO_1.out (fun k_ hk => (⟨hk, hk.2⟩ : _ ∧ k_ ≠ gb424))) (fun _ hk => hk.2) (.int .i64 ((rd_T127 l0 x12_1).f0))) (fun _ hk => hk.2) (.int .i64 ((rd_T127 l0 x12_1).f1))) (fun _ hk => hk.2) (.slice A423_2 ((rd_T127 l0 x12_1).f2).length c423_2)) (fun _ hk => hk.2) (.slice A423_3 ((rd_T127 l0 x12_1).f3).length c423_3)) (fun _ hk => hk.2) (.slice A423_4 ((rd_T127 l0 x12_1).f4).length c423_4)) (fun _ h_ => h_.1)))); (case side4 => exact (Kd.V_reads' HO_1.out).2.1); rintro e w17 ⟨v426, rfl, ho0, hb⟩; refine ⟨_, rfl, ?_⟩; have n0_ := Aside0.mk (Kd.V_elder' (by (with_reducible repeat (first | apply Kd.V_alloc | apply Kd.V_drewN | apply Kd.V_drew)); exact (Kd.V_mono (Kd.V_far (p := ⟨gb424, 4, none⟩) (Kd.V_far (p := ⟨gb424, 3, none⟩) (Kd.V_far (p := ⟨gb424, 2, none⟩) (Kd.V_far (p := ⟨gb424, 1, none⟩) (Kd.V_far (p := ⟨gb424, 0, none⟩) (Kd.V_mono HO_1.out (fun k_ hk => (⟨hk, hk.2⟩ : _ ∧ k_ ≠ gb424))) (fun _ hk => hk.2) (.int .i64 ((rd_T127 l0 x12_1).f0))) (fun _ hk => hk.2) (.int .i64 ((rd_T127 l0 x12_1).f1))) (fun _ hk => hk.2) (.slice A423_2 ((rd_T127 l0 x12_1).f2).length c423_2)) (fun _ hk => hk.2) (.slice A423_3 ((rd_T127 l0 x12_1).f3).length c423_3)) (fun _ hk => hk.2) (.slice A423_4 ((rd_T127 l0 x12_1).f4).length c423_4)) (fun _ h_ => h_.1))) (Kd.R_base ho0) hb); have n1_ := Aside0.mk (Kd.R_lower (Kd.R_newM (M := fun k_ => (w.heap.size ≤ k_)) ho0 (below_size (by repeat (first | (with_reducible first | exact HB.out | apply below_alloc | apply pw_below_drewN | apply below_drew1 | refine below_set ?_ GE424.out) | exact HB.out))) (fun k_ h_ => h_)) (below_size (by repeat (first | (with_reducible first | exact HB.out | apply below_alloc | apply pw_below_drewN | apply below_drew1 | refine below_set ?_ GE424.out) | exact HB.out)))); have n2_ := Aside0.mk (blk_below (g := gb424) (o := .cells #[.int .i64 ((rd_T127 l0 x12_1).f0), .int .i64 ((rd_T127 l0 x12_1).f1), .slice A423_2 ((rd_T127 l0 x12_1).f2).length c423_2, .slice A423_3 ((rd_T127 l0 x12_1).f3).length c423_3, .slice A423_4 ((rd_T127 l0 x12_1).f4).length c423_4] 127 (0, 0)) (by (with_reducible repeat (first | refine blk_drewN ?_ _ | refine blk_drew ?_ | refine blk_alloc ?_ _)); refine blk_put (cs := #[.int .i64 ((rd_T127 l0 x12_1).f0), .int .i64 ((rd_T127 l0 x12_1).f1), .slice A423_2 ((rd_T127 l0 x12_1).f2).length c423_2, .slice A423_3 ((rd_T127 l0 x12_1).f3).length c423_3, .slice none 0 0]) ?_ 4 _ rfl; (with_reducible repeat (first | refine blk_drewN ?_ _ | refine blk_drew ?_ | refine blk_alloc ?_ _)); refine blk_put (cs := #[.int .i64 ((rd_T127 l0 x12_1).f0), .int .i64 ((rd_T127 l0 x12_1).f1), .slice A423_2 ((rd_T127 l0 x12_1).f2).length c423_2, .slice none 0 0, .slice none 0 0]) ?_ 3 _ rfl; (with_reducible repeat (first | refine blk_drewN ?_ _ | refine blk_drew ?_ | refine blk_alloc ?_ _)); refine blk_put (cs := #[.int .i64 ((rd_T127 l0 x12_1).f0), .int .i64 ((rd_T127 l0 x12_1).f1), .slice none 0 0, .slice none 0 0, .slice none 0 0]) ?_ 2 _ rfl; (with_reducible repeat (first | refine blk_drewN ?_ _ | refine blk_drew ?_ | refine blk_alloc ?_ _)); refine blk_put (cs := #[.int .i64 ((rd_T127 l0 x12_1).f0), .int .i64 0, .slice none 0 0, .slice none 0 0, .slice none 0 0]) ?_ 1 _ rfl; (with_reducible repeat (first | refine blk_drewN ?_ _ | refine blk_drew ?_ | refine blk_alloc ?_ _)); refine blk_put (cs := #[.int .i64 0, .int .i64 0, .slice none 0 0, .slice none 0 0, .slice none 0 0]) ?_ 0 _ rfl; (with_reducible repeat (first | refine blk_drewN ?_ _ | refine blk_drew ?_ | refine blk_alloc ?_ _)); exact BK424.out) hb); have n3_ := Aside0.mk (below_step (by repeat (first | (with_reducible first | exact HB.out | apply below_alloc | apply pw_below_drewN | apply below_drew1 | refine below_set ?_ GE424.out) | exact HB.out)) hb); clear HO_1; clear BK424; clear HB; have HO_1 := n0_; have HO427 := n1_; have BK424 := n2_; have HB := n3_; clear n0_ n1_ n2_ n3_; (try clear hb); (try clear hb2); (try clear hk); (try clear hi); (try clear ho0)))
                go_roundg k1
                case measure => have := HK1.out; omega
                case rel => exact ⟨(t425), (x2_1), (wrap64 (x12_1 + 1)), (by first | rfl | (simp; done) | (simp [*]; done)), (by first | rfl | (simp; done) | (simp [*]; done)), H', ⟨by have := HK1.out; omega⟩, ⟨Kd.V_mono (Kd.R_V (by (with_reducible repeat (first | apply Kd.R_alloc | apply Kd.R_drewN | apply Kd.R_drew)); exact Kd.R_mono HO427.out (fun _ hk => hk.1))) (fun k_ hk => by first | exact ⟨(.inr (hk.1)), hk.2⟩ | exact (.inr (hk)))⟩, ⟨by repeat (first | (with_reducible first | exact HB.out | apply below_alloc | apply pw_below_drewN | apply below_drew1 | refine below_set ?_ GE424.out) | exact HB.out)⟩⟩
            · rw [if_neg c7] at H
              have c7b0 : (((rd_T127 l0 x12_1).f0) == 1) = false := beq_eq_false_iff_ne.mpr c7
              have c7b1 : (((rd_T127 l0 x12_1).f0) != 1) = true := bne_iff_ne.mpr c7
              by_cases c18 : ((rd_T127 l0 x12_1).f0) = 2
              · rw [if_pos c18] at H
                have c18b0 : (((rd_T127 l0 x12_1).f0) == 2) = true := beq_iff_eq.mpr c18
                have c18b1 : (((rd_T127 l0 x12_1).f0) != 2) = false := bne_eq_false_iff_eq.mpr c18
                clear c18
                by_cases c19 : 0 ≤ ((rd_T127 l0 x12_1).f1)
                · rw [if_pos c19] at H
                  have c19b0 : decide (0 ≤ ((rd_T127 l0 x12_1).f1)) = true := decide_eq_true c19
                  clear c19
                  by_cases c20 : ((rd_T127 l0 x12_1).f1) < (x1_1.length : Int)
                  · rw [if_pos c20] at H
                    have c20b0 : decide (((rd_T127 l0 x12_1).f1) < (x1_1.length : Int)) = true := decide_eq_true c20
                    clear c20
                    by_cases c21 : (rd x1_1 ((rd_T127 l0 x12_1).f1)) = 0
                    · rw [if_pos c21] at H
                      have c21b0 : ((rd x1_1 ((rd_T127 l0 x12_1).f1)) == 0) = true := beq_iff_eq.mpr c21
                      have c21b1 : ((rd x1_1 ((rd_T127 l0 x12_1).f1)) != 0) = false := bne_eq_false_iff_eq.mpr c21
                      clear c21
                      replace H := Option.bind_eq_some_iff.mp H
                      obtain ⟨⟨t429, t432⟩, A220, H⟩ := H
                      replace H : (if t432 < 0 then (some (t429, t432)) else (codemasonref_Shaped.l0 k1 t429 t432 l0 (l0.length : Int) (wrap64 (x12_1 + 1)))) = some (r1, r2) := H
                      have A22 := Aside0.mk A220
                      clear A220
                      by_cases c23 : t432 < 0
                      · rw [if_pos c23] at H
                        have c23b0 : decide (t432 < 0) = true := decide_eq_true c23
                        clear c23
                        simp only [Option.some.injEq, Prod.mk.injEq] at H
                        obtain ⟨rfl, rfl⟩ := H
                        have p423 : 0 ≤ (x12_1 : Int) := of_decide_eq_true (by first | (with_reducible assumption) | assumption)
                        have q423 : x12_1 < (l0.length : Int) := of_decide_eq_true (by first | (with_reducible assumption) | assumption)
                        obtain ⟨ad423, A423_2, c423_2, A423_3, c423_3, A423_4, c423_4, e423, hx423_0, hx423_1, hx423_2, hx423_3, hx423_4, hl423_2, hi423_2, hl423_3, hi423_3, hl423_4, hi423_4⟩ := at_T127 HR0.out x12_1 p423 q423
                        cases e423
                        replace hx423_0 := (HB.out.cell (World.block_lt_of_cell? w _ hx423_0)).trans hx423_0
                        replace hx423_1 := (HB.out.cell (World.block_lt_of_cell? w _ hx423_1)).trans hx423_1
                        replace hx423_2 := (HB.out.cell (World.block_lt_of_cell? w _ hx423_2)).trans hx423_2
                        replace hx423_3 := (HB.out.cell (World.block_lt_of_cell? w _ hx423_3)).trans hx423_3
                        replace hx423_4 := (HB.out.cell (World.block_lt_of_cell? w _ hx423_4)).trans hx423_4
                        have HR423_2 := Aside0.mk hi423_2
                        have HC423_2 := Aside0.mk hl423_2
                        clear hi423_2 hl423_2
                        have HR423_3 := Aside0.mk hi423_3
                        have HC423_3 := Aside0.mk hl423_3
                        clear hi423_3 hl423_3
                        have HR423_4 := Aside0.mk hi423_4
                        have HC423_4 := Aside0.mk hl423_4
                        clear hi423_4 hl423_4
                        replace p423 := eq_true p423
                        replace q423 := eq_true q423
                        go_wp2_with (first | ((with_reducible refine gate_dst (N := 9) rfl ?_); refine box_event ?hg (N := 9) ?hd (cs := #[.int .i64 0, .int .i64 0, .slice none 0 0, .slice none 0 0, .slice none 0 0]) (t := 127) ?hr ?_; (case hd => rfl); (case hg => rfl); (case hr => first | (go_simp; done) | (go_simp; rfl)); intro gb424 hg w24 hbox hb; have n0_ := Aside0.mk (Kd.V_below (Kd.V_elderB (by (with_reducible repeat (first | apply Kd.V_alloc | apply Kd.V_drewN | apply Kd.V_drew)); exact HO_1.out) gb424 (Nat.le_of_eq hg.symm)) hb); have n1_ := Aside0.mk (below_step (by repeat (first | (with_reducible first | exact HB.out | apply below_alloc | apply pw_below_drewN | apply below_drew1) | exact HB.out)) hb); have n2_ := Aside0.mk (hbox); have n3_ := Aside0.mk ((by rw [hg]; exact (below_size (by repeat (first | (with_reducible first | exact HB.out | apply below_alloc | apply pw_below_drewN | apply below_drew1) | exact HB.out))) : w.heap.size ≤ gb424)); have n4_ := Aside0.mk ((by rw [hg]; exact (below_size (by repeat (first | (with_reducible first | exact HB.out | apply below_alloc | apply pw_below_drewN | apply below_drew1) | exact HB.out))) : w.heap.size ≤ gb424)); clear HO_1; clear HB; have HO_1 := n0_; have HB := n1_; have BK424 := n2_; have GW424 := n3_; have GE424 := n4_; clear n0_ n1_ n2_ n3_ n4_; clear hb hbox hg; have hcz25_0 : w24.cell? ⟨gb424, 0, none⟩ = some (.int .i64 0) := (blk_cell BK424.out 0).trans rfl; have hcz25_1 : w24.cell? ⟨gb424, 1, none⟩ = some (.int .i64 0) := (blk_cell BK424.out 1).trans rfl; have hcz25_2 : w24.cell? ⟨gb424, 2, none⟩ = some (.slice none 0 0) := (blk_cell BK424.out 2).trans rfl; have hcz25_3 : w24.cell? ⟨gb424, 3, none⟩ = some (.slice none 0 0) := (blk_cell BK424.out 3).trans rfl; have hcz25_4 : w24.cell? ⟨gb424, 4, none⟩ = some (.slice none 0 0) := (blk_cell BK424.out 4).trans rfl; have hfz25_0 := blk_frozen BK424.out 0; have hfz25_1 := blk_frozen BK424.out 1; have hfz25_2 := blk_frozen BK424.out 2; have hfz25_3 := blk_frozen BK424.out 3; have hfz25_4 := blk_frozen BK424.out 4) | ((with_reducible refine gate_store (t := 127) (p := 9) rfl ?_); refine store_event (t := 127) (p := 9) (v := ?vo_w26) (w1 := (((((w24.setCell ⟨gb424, 0, none⟩ (.int .i64 ((rd_T127 l0 x12_1).f0))).setCell ⟨gb424, 1, none⟩ (.int .i64 ((rd_T127 l0 x12_1).f1))).setCell ⟨gb424, 2, none⟩ (.slice A423_2 ((rd_T127 l0 x12_1).f2).length c423_2)).setCell ⟨gb424, 3, none⟩ (.slice A423_3 ((rd_T127 l0 x12_1).f3).length c423_3)).setCell ⟨gb424, 4, none⟩ (.slice A423_4 ((rd_T127 l0 x12_1).f4).length c423_4))) ?hg ?ho ?hn ?hr ?_; (case ho => rfl); (case hg => rfl); (case hn => rfl); (case hr => first | (go_simp; done) | (go_simp; rfl)); intro w26 hw; have n0_ : Aside0 (Kd.V (Kd.int .i64) 3 w26 w.heap.size (fun k_ => (P1_ k_ ∨ w.heap.size ≤ k_) ∧ k_ ≠ gb424) u1 x1_1) := ⟨(by rw [hw]; exact (by (with_reducible repeat (first | apply Kd.V_alloc | apply Kd.V_drewN | apply Kd.V_drew)); exact Kd.V_mono (Kd.V_far (p := ⟨gb424, 4, none⟩) (Kd.V_far (p := ⟨gb424, 3, none⟩) (Kd.V_far (p := ⟨gb424, 2, none⟩) (Kd.V_far (p := ⟨gb424, 1, none⟩) (Kd.V_far (p := ⟨gb424, 0, none⟩) (Kd.V_mono HO_1.out (fun k_ hk => (⟨hk, hk.2⟩ : _ ∧ k_ ≠ gb424))) (fun _ hk => hk.2) (.int .i64 ((rd_T127 l0 x12_1).f0))) (fun _ hk => hk.2) (.int .i64 ((rd_T127 l0 x12_1).f1))) (fun _ hk => hk.2) (.slice A423_2 ((rd_T127 l0 x12_1).f2).length c423_2)) (fun _ hk => hk.2) (.slice A423_3 ((rd_T127 l0 x12_1).f3).length c423_3)) (fun _ hk => hk.2) (.slice A423_4 ((rd_T127 l0 x12_1).f4).length c423_4)) (fun _ hk => ⟨hk.1.1, hk.1.2⟩)))⟩; have n1_ : Aside0 (w26.heap[gb424]? = some (.cells #[.int .i64 ((rd_T127 l0 x12_1).f0), .int .i64 ((rd_T127 l0 x12_1).f1), .slice A423_2 ((rd_T127 l0 x12_1).f2).length c423_2, .slice A423_3 ((rd_T127 l0 x12_1).f3).length c423_3, .slice A423_4 ((rd_T127 l0 x12_1).f4).length c423_4] 127 (0, 0))) := ⟨(by rw [hw]; exact (by (with_reducible repeat (first | refine blk_drewN ?_ _ | refine blk_drew ?_ | refine blk_alloc ?_ _)); refine blk_put (cs := #[.int .i64 ((rd_T127 l0 x12_1).f0), .int .i64 ((rd_T127 l0 x12_1).f1), .slice A423_2 ((rd_T127 l0 x12_1).f2).length c423_2, .slice A423_3 ((rd_T127 l0 x12_1).f3).length c423_3, .slice none 0 0]) ?_ 4 _ rfl; (with_reducible repeat (first | refine blk_drewN ?_ _ | refine blk_drew ?_ | refine blk_alloc ?_ _)); refine blk_put (cs := #[.int .i64 ((rd_T127 l0 x12_1).f0), .int .i64 ((rd_T127 l0 x12_1).f1), .slice A423_2 ((rd_T127 l0 x12_1).f2).length c423_2, .slice none 0 0, .slice none 0 0]) ?_ 3 _ rfl; (with_reducible repeat (first | refine blk_drewN ?_ _ | refine blk_drew ?_ | refine blk_alloc ?_ _)); refine blk_put (cs := #[.int .i64 ((rd_T127 l0 x12_1).f0), .int .i64 ((rd_T127 l0 x12_1).f1), .slice none 0 0, .slice none 0 0, .slice none 0 0]) ?_ 2 _ rfl; (with_reducible repeat (first | refine blk_drewN ?_ _ | refine blk_drew ?_ | refine blk_alloc ?_ _)); refine blk_put (cs := #[.int .i64 ((rd_T127 l0 x12_1).f0), .int .i64 0, .slice none 0 0, .slice none 0 0, .slice none 0 0]) ?_ 1 _ rfl; (with_reducible repeat (first | refine blk_drewN ?_ _ | refine blk_drew ?_ | refine blk_alloc ?_ _)); refine blk_put (cs := #[.int .i64 0, .int .i64 0, .slice none 0 0, .slice none 0 0, .slice none 0 0]) ?_ 0 _ rfl; (with_reducible repeat (first | refine blk_drewN ?_ _ | refine blk_drew ?_ | refine blk_alloc ?_ _)); exact BK424.out))⟩; have n2_ : Aside0 (Below w.heap.size w w26) := ⟨(by rw [hw]; exact (by repeat (first | (with_reducible first | exact HB.out | apply below_alloc | apply pw_below_drewN | apply below_drew1 | refine below_set ?_ GE424.out) | exact HB.out)))⟩; clear hw; clear HO_1; clear BK424; clear HB; have HO_1 := n0_; have BK424 := n1_; have HB := n2_; clear n0_ n1_ n2_; have hcz27_0 : w26.cell? ⟨gb424, 0, none⟩ = some (.int .i64 ((rd_T127 l0 x12_1).f0)) := (blk_cell BK424.out 0).trans rfl; have hcz27_1 : w26.cell? ⟨gb424, 1, none⟩ = some (.int .i64 ((rd_T127 l0 x12_1).f1)) := (blk_cell BK424.out 1).trans rfl; have hcz27_2 : w26.cell? ⟨gb424, 2, none⟩ = some (.slice A423_2 ((rd_T127 l0 x12_1).f2).length c423_2) := (blk_cell BK424.out 2).trans rfl; have hcz27_3 : w26.cell? ⟨gb424, 3, none⟩ = some (.slice A423_3 ((rd_T127 l0 x12_1).f3).length c423_3) := (blk_cell BK424.out 3).trans rfl; have hcz27_4 : w26.cell? ⟨gb424, 4, none⟩ = some (.slice A423_4 ((rd_T127 l0 x12_1).f4).length c423_4) := (blk_cell BK424.out 4).trans rfl; have hfz27_0 := blk_frozen BK424.out 0; have hfz27_1 := blk_frozen BK424.out 1; have hfz27_2 := blk_frozen BK424.out 2; have hfz27_3 := blk_frozen BK424.out 3; have hfz27_4 := blk_frozen BK424.out 4; obtain ⟨Ao28, co28, eo28⟩ := Kd.V_slice HO_1.out; subst eo28; have p428 : 0 ≤ (((rd_T127 l0 x12_1).f1) : Int) := of_decide_eq_true (by first | (with_reducible assumption) | assumption); have q428 : ((rd_T127 l0 x12_1).f1) < (x1_1.length : Int) := of_decide_eq_true (by first | (with_reducible assumption) | assumption); obtain ⟨ad428, e428, hx428_0⟩ := Kd.at_int (Kd.V_reads' HO_1.out).2.2 ((rd_T127 l0 x12_1).f1) p428 q428; cases e428; replace p428 := eq_true p428; replace q428 := eq_true q428) | ((with_reducible refine gate_callee (f := 35) rfl ?_); refine goesL_ (some 45) rfl rfl Try.func35 (by kernel_rfl) rfl #[.slice A423_4 ((rd_T127 l0 x12_1).f4).length c423_4, .slice (some ad428) x1_1.length co28, .int .i64 x2_1] rfl (by (try simp only [List.map_toArray, List.map_cons, List.map_nil]); first | done | rfl | (simp only [List.length_drop, List.length_take]; rfl)) ?_; (with_reducible refine (ih k1 (by have := HK1.out; omega) _ _ ((rd_T127 l0 x12_1).f4) (fun k_ => ((P1_ k_ ∨ w.heap.size ≤ k_) ∧ k_ ≠ gb424)) _ _ x1_1 x2_1 t429 t432 _ ?side1 ?side2 ?side3 A22.out).mono ?_); (case side1 => repeat (first | exact (Kd.C_below HR423_4.out HB.out) | (with_reducible refine Kd.C_alloc ?_ _) | (with_reducible refine Kd.C_drewN ?_ _) | (with_reducible refine Kd.C_drew ?_))); (case side2 => exact HC423_4.out); (case side3 => exact HO_1.out); rintro e w29 ⟨v430, rfl, ho0, hb⟩; refine ⟨_, rfl, ?_⟩; have n0_ := Aside0.mk (Kd.V_below (by (with_reducible repeat (first | apply Kd.V_alloc | apply Kd.V_drewN | apply Kd.V_drew)); exact HO_1.out) hb); have n1_ := Aside0.mk (Kd.V_lower (Kd.V_mono (ok' := fun k_ => (P1_ k_ ∨ w.heap.size ≤ k_) ∧ k_ ≠ gb424) ho0 (fun k_ hk_ => ⟨Or.elim hk_ (fun hs_ => hs_.1) (fun hn_ => (.inr (Nat.le_trans (below_size (by repeat (first | (with_reducible first | exact HB.out | apply below_alloc | apply pw_below_drewN | apply below_drew1 | refine below_set ?_ GE424.out) | exact HB.out))) hn_))), Or.elim hk_ (fun hs_ => hs_.2) (fun hn_ => (Kd.freshB (g := gb424) (o := .cells #[.int .i64 ((rd_T127 l0 x12_1).f0), .int .i64 ((rd_T127 l0 x12_1).f1), .slice A423_2 ((rd_T127 l0 x12_1).f2).length c423_2, .slice A423_3 ((rd_T127 l0 x12_1).f3).length c423_3, .slice A423_4 ((rd_T127 l0 x12_1).f4).length c423_4] 127 (0, 0)) (by (with_reducible repeat (first | refine blk_drewN ?_ _ | refine blk_drew ?_ | refine blk_alloc ?_ _)); exact BK424.out) k_ hn_))⟩)) (below_size (by repeat (first | (with_reducible first | exact HB.out | apply below_alloc | apply pw_below_drewN | apply below_drew1 | refine below_set ?_ GE424.out) | exact HB.out)))); have n2_ := Aside0.mk (blk_below (g := gb424) (o := .cells #[.int .i64 ((rd_T127 l0 x12_1).f0), .int .i64 ((rd_T127 l0 x12_1).f1), .slice A423_2 ((rd_T127 l0 x12_1).f2).length c423_2, .slice A423_3 ((rd_T127 l0 x12_1).f3).length c423_3, .slice A423_4 ((rd_T127 l0 x12_1).f4).length c423_4] 127 (0, 0)) (by (with_reducible repeat (first | refine blk_drewN ?_ _ | refine blk_drew ?_ | refine blk_alloc ?_ _)); exact BK424.out) hb); have n3_ := Aside0.mk (below_step (by repeat (first | (with_reducible first | exact HB.out | apply below_alloc | apply pw_below_drewN | apply below_drew1 | refine below_set ?_ GE424.out) | exact HB.out)) hb); clear HO_1; clear BK424; clear HB; have HO_1 := n0_; have HO431 := n1_; have BK424 := n2_; have HB := n3_; clear n0_ n1_ n2_ n3_; (try clear hb); (try clear hb2); (try clear hk); (try clear hi); (try clear ho0)))
                        go_ret2
                        exact ⟨_, by first | rfl | (simp [errW_none, errW_some] <;> rfl) | (simp [*, errW_none, errW_some] <;> rfl), by (with_reducible repeat (first | apply Kd.V_alloc | apply Kd.V_drewN | apply Kd.V_drew)); exact Kd.V_mono HO431.out (fun _ hk => hk.1), by repeat (first | (with_reducible first | exact HB.out | apply below_alloc | apply pw_below_drewN | apply below_drew1 | refine below_set ?_ GE424.out) | exact HB.out)⟩
                      · rw [if_neg c23] at H
                        have c23b0 : decide (t432 < 0) = false := decide_eq_false c23
                        clear c23
                        have H' := Aside0.mk H
                        clear H
                        have p423 : 0 ≤ (x12_1 : Int) := of_decide_eq_true (by first | (with_reducible assumption) | assumption)
                        have q423 : x12_1 < (l0.length : Int) := of_decide_eq_true (by first | (with_reducible assumption) | assumption)
                        obtain ⟨ad423, A423_2, c423_2, A423_3, c423_3, A423_4, c423_4, e423, hx423_0, hx423_1, hx423_2, hx423_3, hx423_4, hl423_2, hi423_2, hl423_3, hi423_3, hl423_4, hi423_4⟩ := at_T127 HR0.out x12_1 p423 q423
                        cases e423
                        replace hx423_0 := (HB.out.cell (World.block_lt_of_cell? w _ hx423_0)).trans hx423_0
                        replace hx423_1 := (HB.out.cell (World.block_lt_of_cell? w _ hx423_1)).trans hx423_1
                        replace hx423_2 := (HB.out.cell (World.block_lt_of_cell? w _ hx423_2)).trans hx423_2
                        replace hx423_3 := (HB.out.cell (World.block_lt_of_cell? w _ hx423_3)).trans hx423_3
                        replace hx423_4 := (HB.out.cell (World.block_lt_of_cell? w _ hx423_4)).trans hx423_4
                        have HR423_2 := Aside0.mk hi423_2
                        have HC423_2 := Aside0.mk hl423_2
                        clear hi423_2 hl423_2
                        have HR423_3 := Aside0.mk hi423_3
                        have HC423_3 := Aside0.mk hl423_3
                        clear hi423_3 hl423_3
                        have HR423_4 := Aside0.mk hi423_4
                        have HC423_4 := Aside0.mk hl423_4
                        clear hi423_4 hl423_4
                        replace p423 := eq_true p423
                        replace q423 := eq_true q423
                        go_wp2_with (first | ((with_reducible refine gate_dst (N := 9) rfl ?_); refine box_event ?hg (N := 9) ?hd (cs := #[.int .i64 0, .int .i64 0, .slice none 0 0, .slice none 0 0, .slice none 0 0]) (t := 127) ?hr ?_; (case hd => rfl); (case hg => rfl); (case hr => first | (go_simp; done) | (go_simp; rfl)); intro gb424 hg w30 hbox hb; have n0_ := Aside0.mk (Kd.V_below (Kd.V_elderB (by (with_reducible repeat (first | apply Kd.V_alloc | apply Kd.V_drewN | apply Kd.V_drew)); exact HO_1.out) gb424 (Nat.le_of_eq hg.symm)) hb); have n1_ := Aside0.mk (below_step (by repeat (first | (with_reducible first | exact HB.out | apply below_alloc | apply pw_below_drewN | apply below_drew1) | exact HB.out)) hb); have n2_ := Aside0.mk (hbox); have n3_ := Aside0.mk ((by rw [hg]; exact (below_size (by repeat (first | (with_reducible first | exact HB.out | apply below_alloc | apply pw_below_drewN | apply below_drew1) | exact HB.out))) : w.heap.size ≤ gb424)); have n4_ := Aside0.mk ((by rw [hg]; exact (below_size (by repeat (first | (with_reducible first | exact HB.out | apply below_alloc | apply pw_below_drewN | apply below_drew1) | exact HB.out))) : w.heap.size ≤ gb424)); clear HO_1; clear HB; have HO_1 := n0_; have HB := n1_; have BK424 := n2_; have GW424 := n3_; have GE424 := n4_; clear n0_ n1_ n2_ n3_ n4_; clear hb hbox hg; have hcz31_0 : w30.cell? ⟨gb424, 0, none⟩ = some (.int .i64 0) := (blk_cell BK424.out 0).trans rfl; have hcz31_1 : w30.cell? ⟨gb424, 1, none⟩ = some (.int .i64 0) := (blk_cell BK424.out 1).trans rfl; have hcz31_2 : w30.cell? ⟨gb424, 2, none⟩ = some (.slice none 0 0) := (blk_cell BK424.out 2).trans rfl; have hcz31_3 : w30.cell? ⟨gb424, 3, none⟩ = some (.slice none 0 0) := (blk_cell BK424.out 3).trans rfl; have hcz31_4 : w30.cell? ⟨gb424, 4, none⟩ = some (.slice none 0 0) := (blk_cell BK424.out 4).trans rfl; have hfz31_0 := blk_frozen BK424.out 0; have hfz31_1 := blk_frozen BK424.out 1; have hfz31_2 := blk_frozen BK424.out 2; have hfz31_3 := blk_frozen BK424.out 3; have hfz31_4 := blk_frozen BK424.out 4) | ((with_reducible refine gate_store (t := 127) (p := 9) rfl ?_); refine store_event (t := 127) (p := 9) (v := ?vo_w32) (w1 := (((((w30.setCell ⟨gb424, 0, none⟩ (.int .i64 ((rd_T127 l0 x12_1).f0))).setCell ⟨gb424, 1, none⟩ (.int .i64 ((rd_T127 l0 x12_1).f1))).setCell ⟨gb424, 2, none⟩ (.slice A423_2 ((rd_T127 l0 x12_1).f2).length c423_2)).setCell ⟨gb424, 3, none⟩ (.slice A423_3 ((rd_T127 l0 x12_1).f3).length c423_3)).setCell ⟨gb424, 4, none⟩ (.slice A423_4 ((rd_T127 l0 x12_1).f4).length c423_4))) ?hg ?ho ?hn ?hr ?_; (case ho => rfl); (case hg => rfl); (case hn => rfl); (case hr => first | (go_simp; done) | (go_simp; rfl)); intro w32 hw; have n0_ : Aside0 (Kd.V (Kd.int .i64) 3 w32 w.heap.size (fun k_ => (P1_ k_ ∨ w.heap.size ≤ k_) ∧ k_ ≠ gb424) u1 x1_1) := ⟨(by rw [hw]; exact (by (with_reducible repeat (first | apply Kd.V_alloc | apply Kd.V_drewN | apply Kd.V_drew)); exact Kd.V_mono (Kd.V_far (p := ⟨gb424, 4, none⟩) (Kd.V_far (p := ⟨gb424, 3, none⟩) (Kd.V_far (p := ⟨gb424, 2, none⟩) (Kd.V_far (p := ⟨gb424, 1, none⟩) (Kd.V_far (p := ⟨gb424, 0, none⟩) (Kd.V_mono HO_1.out (fun k_ hk => (⟨hk, hk.2⟩ : _ ∧ k_ ≠ gb424))) (fun _ hk => hk.2) (.int .i64 ((rd_T127 l0 x12_1).f0))) (fun _ hk => hk.2) (.int .i64 ((rd_T127 l0 x12_1).f1))) (fun _ hk => hk.2) (.slice A423_2 ((rd_T127 l0 x12_1).f2).length c423_2)) (fun _ hk => hk.2) (.slice A423_3 ((rd_T127 l0 x12_1).f3).length c423_3)) (fun _ hk => hk.2) (.slice A423_4 ((rd_T127 l0 x12_1).f4).length c423_4)) (fun _ hk => ⟨hk.1.1, hk.1.2⟩)))⟩; have n1_ : Aside0 (w32.heap[gb424]? = some (.cells #[.int .i64 ((rd_T127 l0 x12_1).f0), .int .i64 ((rd_T127 l0 x12_1).f1), .slice A423_2 ((rd_T127 l0 x12_1).f2).length c423_2, .slice A423_3 ((rd_T127 l0 x12_1).f3).length c423_3, .slice A423_4 ((rd_T127 l0 x12_1).f4).length c423_4] 127 (0, 0))) := ⟨(by rw [hw]; exact (by (with_reducible repeat (first | refine blk_drewN ?_ _ | refine blk_drew ?_ | refine blk_alloc ?_ _)); refine blk_put (cs := #[.int .i64 ((rd_T127 l0 x12_1).f0), .int .i64 ((rd_T127 l0 x12_1).f1), .slice A423_2 ((rd_T127 l0 x12_1).f2).length c423_2, .slice A423_3 ((rd_T127 l0 x12_1).f3).length c423_3, .slice none 0 0]) ?_ 4 _ rfl; (with_reducible repeat (first | refine blk_drewN ?_ _ | refine blk_drew ?_ | refine blk_alloc ?_ _)); refine blk_put (cs := #[.int .i64 ((rd_T127 l0 x12_1).f0), .int .i64 ((rd_T127 l0 x12_1).f1), .slice A423_2 ((rd_T127 l0 x12_1).f2).length c423_2, .slice none 0 0, .slice none 0 0]) ?_ 3 _ rfl; (with_reducible repeat (first | refine blk_drewN ?_ _ | refine blk_drew ?_ | refine blk_alloc ?_ _)); refine blk_put (cs := #[.int .i64 ((rd_T127 l0 x12_1).f0), .int .i64 ((rd_T127 l0 x12_1).f1), .slice none 0 0, .slice none 0 0, .slice none 0 0]) ?_ 2 _ rfl; (with_reducible repeat (first | refine blk_drewN ?_ _ | refine blk_drew ?_ | refine blk_alloc ?_ _)); refine blk_put (cs := #[.int .i64 ((rd_T127 l0 x12_1).f0), .int .i64 0, .slice none 0 0, .slice none 0 0, .slice none 0 0]) ?_ 1 _ rfl; (with_reducible repeat (first | refine blk_drewN ?_ _ | refine blk_drew ?_ | refine blk_alloc ?_ _)); refine blk_put (cs := #[.int .i64 0, .int .i64 0, .slice none 0 0, .slice none 0 0, .slice none 0 0]) ?_ 0 _ rfl; (with_reducible repeat (first | refine blk_drewN ?_ _ | refine blk_drew ?_ | refine blk_alloc ?_ _)); exact BK424.out))⟩; have n2_ : Aside0 (Below w.heap.size w w32) := ⟨(by rw [hw]; exact (by repeat (first | (with_reducible first | exact HB.out | apply below_alloc | apply pw_below_drewN | apply below_drew1 | refine below_set ?_ GE424.out) | exact HB.out)))⟩; clear hw; clear HO_1; clear BK424; clear HB; have HO_1 := n0_; have BK424 := n1_; have HB := n2_; clear n0_ n1_ n2_; have hcz33_0 : w32.cell? ⟨gb424, 0, none⟩ = some (.int .i64 ((rd_T127 l0 x12_1).f0)) := (blk_cell BK424.out 0).trans rfl; have hcz33_1 : w32.cell? ⟨gb424, 1, none⟩ = some (.int .i64 ((rd_T127 l0 x12_1).f1)) := (blk_cell BK424.out 1).trans rfl; have hcz33_2 : w32.cell? ⟨gb424, 2, none⟩ = some (.slice A423_2 ((rd_T127 l0 x12_1).f2).length c423_2) := (blk_cell BK424.out 2).trans rfl; have hcz33_3 : w32.cell? ⟨gb424, 3, none⟩ = some (.slice A423_3 ((rd_T127 l0 x12_1).f3).length c423_3) := (blk_cell BK424.out 3).trans rfl; have hcz33_4 : w32.cell? ⟨gb424, 4, none⟩ = some (.slice A423_4 ((rd_T127 l0 x12_1).f4).length c423_4) := (blk_cell BK424.out 4).trans rfl; have hfz33_0 := blk_frozen BK424.out 0; have hfz33_1 := blk_frozen BK424.out 1; have hfz33_2 := blk_frozen BK424.out 2; have hfz33_3 := blk_frozen BK424.out 3; have hfz33_4 := blk_frozen BK424.out 4; obtain ⟨Ao34, co34, eo34⟩ := Kd.V_slice HO_1.out; subst eo34; have p428 : 0 ≤ (((rd_T127 l0 x12_1).f1) : Int) := of_decide_eq_true (by first | (with_reducible assumption) | assumption); have q428 : ((rd_T127 l0 x12_1).f1) < (x1_1.length : Int) := of_decide_eq_true (by first | (with_reducible assumption) | assumption); obtain ⟨ad428, e428, hx428_0⟩ := Kd.at_int (Kd.V_reads' HO_1.out).2.2 ((rd_T127 l0 x12_1).f1) p428 q428; cases e428; replace p428 := eq_true p428; replace q428 := eq_true q428) | ((with_reducible refine gate_callee (f := 35) rfl ?_); refine goesL_ (some 45) rfl rfl Try.func35 (by kernel_rfl) rfl #[.slice A423_4 ((rd_T127 l0 x12_1).f4).length c423_4, .slice (some ad428) x1_1.length co34, .int .i64 x2_1] rfl (by (try simp only [List.map_toArray, List.map_cons, List.map_nil]); first | done | rfl | (simp only [List.length_drop, List.length_take]; rfl)) ?_; (with_reducible refine (ih k1 (by have := HK1.out; omega) _ _ ((rd_T127 l0 x12_1).f4) (fun k_ => ((P1_ k_ ∨ w.heap.size ≤ k_) ∧ k_ ≠ gb424)) _ _ x1_1 x2_1 t429 t432 _ ?side1 ?side2 ?side3 A22.out).mono ?_); (case side1 => repeat (first | exact (Kd.C_below HR423_4.out HB.out) | (with_reducible refine Kd.C_alloc ?_ _) | (with_reducible refine Kd.C_drewN ?_ _) | (with_reducible refine Kd.C_drew ?_))); (case side2 => exact HC423_4.out); (case side3 => exact HO_1.out); rintro e w35 ⟨v430, rfl, ho0, hb⟩; refine ⟨_, rfl, ?_⟩; have n0_ := Aside0.mk (Kd.V_below (by (with_reducible repeat (first | apply Kd.V_alloc | apply Kd.V_drewN | apply Kd.V_drew)); exact HO_1.out) hb); have n1_ := Aside0.mk (Kd.V_lower (Kd.V_mono (ok' := fun k_ => (P1_ k_ ∨ w.heap.size ≤ k_) ∧ k_ ≠ gb424) ho0 (fun k_ hk_ => ⟨Or.elim hk_ (fun hs_ => hs_.1) (fun hn_ => (.inr (Nat.le_trans (below_size (by repeat (first | (with_reducible first | exact HB.out | apply below_alloc | apply pw_below_drewN | apply below_drew1 | refine below_set ?_ GE424.out) | exact HB.out))) hn_))), Or.elim hk_ (fun hs_ => hs_.2) (fun hn_ => (Kd.freshB (g := gb424) (o := .cells #[.int .i64 ((rd_T127 l0 x12_1).f0), .int .i64 ((rd_T127 l0 x12_1).f1), .slice A423_2 ((rd_T127 l0 x12_1).f2).length c423_2, .slice A423_3 ((rd_T127 l0 x12_1).f3).length c423_3, .slice A423_4 ((rd_T127 l0 x12_1).f4).length c423_4] 127 (0, 0)) (by (with_reducible repeat (first | refine blk_drewN ?_ _ | refine blk_drew ?_ | refine blk_alloc ?_ _)); exact BK424.out) k_ hn_))⟩)) (below_size (by repeat (first | (with_reducible first | exact HB.out | apply below_alloc | apply pw_below_drewN | apply below_drew1 | refine below_set ?_ GE424.out) | exact HB.out)))); have n2_ := Aside0.mk (blk_below (g := gb424) (o := .cells #[.int .i64 ((rd_T127 l0 x12_1).f0), .int .i64 ((rd_T127 l0 x12_1).f1), .slice A423_2 ((rd_T127 l0 x12_1).f2).length c423_2, .slice A423_3 ((rd_T127 l0 x12_1).f3).length c423_3, .slice A423_4 ((rd_T127 l0 x12_1).f4).length c423_4] 127 (0, 0)) (by (with_reducible repeat (first | refine blk_drewN ?_ _ | refine blk_drew ?_ | refine blk_alloc ?_ _)); exact BK424.out) hb); have n3_ := Aside0.mk (below_step (by repeat (first | (with_reducible first | exact HB.out | apply below_alloc | apply pw_below_drewN | apply below_drew1 | refine below_set ?_ GE424.out) | exact HB.out)) hb); clear HO_1; clear BK424; clear HB; have HO_1 := n0_; have HO431 := n1_; have BK424 := n2_; have HB := n3_; clear n0_ n1_ n2_ n3_; (try clear hb); (try clear hb2); (try clear hk); (try clear hi); (try clear ho0)))
                        go_roundg k1
                        case measure => have := HK1.out; omega
                        case rel => exact ⟨(t429), (t432), (wrap64 (x12_1 + 1)), (by first | rfl | (simp; done) | (simp [*]; done)), (by first | rfl | (simp; done) | (simp [*]; done)), H', ⟨by have := HK1.out; omega⟩, ⟨by (with_reducible repeat (first | apply Kd.V_alloc | apply Kd.V_drewN | apply Kd.V_drew)); exact Kd.V_mono HO431.out (fun _ hk => hk.1)⟩, ⟨by repeat (first | (with_reducible first | exact HB.out | apply below_alloc | apply pw_below_drewN | apply below_drew1 | refine below_set ?_ GE424.out) | exact HB.out)⟩⟩
                    · rw [if_neg c21] at H
                      have c21b0 : ((rd x1_1 ((rd_T127 l0 x12_1).f1)) == 0) = false := beq_eq_false_iff_ne.mpr c21
                      have c21b1 : ((rd x1_1 ((rd_T127 l0 x12_1).f1)) != 0) = true := bne_iff_ne.mpr c21
                      replace H := Option.bind_eq_some_iff.mp H
                      obtain ⟨⟨t433, t436⟩, A360, H⟩ := H
                      replace H : (if t436 < 0 then (some (t433, t436)) else (codemasonref_Shaped.l0 k1 t433 t436 l0 (l0.length : Int) (wrap64 (x12_1 + 1)))) = some (r1, r2) := H
                      have A36 := Aside0.mk A360
                      clear A360
                      by_cases c37 : t436 < 0
                      · rw [if_pos c37] at H
                        have c37b0 : decide (t436 < 0) = true := decide_eq_true c37
                        clear c37
                        simp only [Option.some.injEq, Prod.mk.injEq] at H
                        obtain ⟨rfl, rfl⟩ := H
                        have p423 : 0 ≤ (x12_1 : Int) := of_decide_eq_true (by first | (with_reducible assumption) | assumption)
                        have q423 : x12_1 < (l0.length : Int) := of_decide_eq_true (by first | (with_reducible assumption) | assumption)
                        obtain ⟨ad423, A423_2, c423_2, A423_3, c423_3, A423_4, c423_4, e423, hx423_0, hx423_1, hx423_2, hx423_3, hx423_4, hl423_2, hi423_2, hl423_3, hi423_3, hl423_4, hi423_4⟩ := at_T127 HR0.out x12_1 p423 q423
                        cases e423
                        replace hx423_0 := (HB.out.cell (World.block_lt_of_cell? w _ hx423_0)).trans hx423_0
                        replace hx423_1 := (HB.out.cell (World.block_lt_of_cell? w _ hx423_1)).trans hx423_1
                        replace hx423_2 := (HB.out.cell (World.block_lt_of_cell? w _ hx423_2)).trans hx423_2
                        replace hx423_3 := (HB.out.cell (World.block_lt_of_cell? w _ hx423_3)).trans hx423_3
                        replace hx423_4 := (HB.out.cell (World.block_lt_of_cell? w _ hx423_4)).trans hx423_4
                        have HR423_2 := Aside0.mk hi423_2
                        have HC423_2 := Aside0.mk hl423_2
                        clear hi423_2 hl423_2
                        have HR423_3 := Aside0.mk hi423_3
                        have HC423_3 := Aside0.mk hl423_3
                        clear hi423_3 hl423_3
                        have HR423_4 := Aside0.mk hi423_4
                        have HC423_4 := Aside0.mk hl423_4
                        clear hi423_4 hl423_4
                        replace p423 := eq_true p423
                        replace q423 := eq_true q423
                        go_wp2_with (first | ((with_reducible refine gate_dst (N := 9) rfl ?_); refine box_event ?hg (N := 9) ?hd (cs := #[.int .i64 0, .int .i64 0, .slice none 0 0, .slice none 0 0, .slice none 0 0]) (t := 127) ?hr ?_; (case hd => rfl); (case hg => rfl); (case hr => first | (go_simp; done) | (go_simp; rfl)); intro gb424 hg w38 hbox hb; have n0_ := Aside0.mk (Kd.V_below (Kd.V_elderB (by (with_reducible repeat (first | apply Kd.V_alloc | apply Kd.V_drewN | apply Kd.V_drew)); exact HO_1.out) gb424 (Nat.le_of_eq hg.symm)) hb); have n1_ := Aside0.mk (below_step (by repeat (first | (with_reducible first | exact HB.out | apply below_alloc | apply pw_below_drewN | apply below_drew1) | exact HB.out)) hb); have n2_ := Aside0.mk (hbox); have n3_ := Aside0.mk ((by rw [hg]; exact (below_size (by repeat (first | (with_reducible first | exact HB.out | apply below_alloc | apply pw_below_drewN | apply below_drew1) | exact HB.out))) : w.heap.size ≤ gb424)); have n4_ := Aside0.mk ((by rw [hg]; exact (below_size (by repeat (first | (with_reducible first | exact HB.out | apply below_alloc | apply pw_below_drewN | apply below_drew1) | exact HB.out))) : w.heap.size ≤ gb424)); clear HO_1; clear HB; have HO_1 := n0_; have HB := n1_; have BK424 := n2_; have GW424 := n3_; have GE424 := n4_; clear n0_ n1_ n2_ n3_ n4_; clear hb hbox hg; have hcz39_0 : w38.cell? ⟨gb424, 0, none⟩ = some (.int .i64 0) := (blk_cell BK424.out 0).trans rfl; have hcz39_1 : w38.cell? ⟨gb424, 1, none⟩ = some (.int .i64 0) := (blk_cell BK424.out 1).trans rfl; have hcz39_2 : w38.cell? ⟨gb424, 2, none⟩ = some (.slice none 0 0) := (blk_cell BK424.out 2).trans rfl; have hcz39_3 : w38.cell? ⟨gb424, 3, none⟩ = some (.slice none 0 0) := (blk_cell BK424.out 3).trans rfl; have hcz39_4 : w38.cell? ⟨gb424, 4, none⟩ = some (.slice none 0 0) := (blk_cell BK424.out 4).trans rfl; have hfz39_0 := blk_frozen BK424.out 0; have hfz39_1 := blk_frozen BK424.out 1; have hfz39_2 := blk_frozen BK424.out 2; have hfz39_3 := blk_frozen BK424.out 3; have hfz39_4 := blk_frozen BK424.out 4) | ((with_reducible refine gate_store (t := 127) (p := 9) rfl ?_); refine store_event (t := 127) (p := 9) (v := ?vo_w40) (w1 := (((((w38.setCell ⟨gb424, 0, none⟩ (.int .i64 ((rd_T127 l0 x12_1).f0))).setCell ⟨gb424, 1, none⟩ (.int .i64 ((rd_T127 l0 x12_1).f1))).setCell ⟨gb424, 2, none⟩ (.slice A423_2 ((rd_T127 l0 x12_1).f2).length c423_2)).setCell ⟨gb424, 3, none⟩ (.slice A423_3 ((rd_T127 l0 x12_1).f3).length c423_3)).setCell ⟨gb424, 4, none⟩ (.slice A423_4 ((rd_T127 l0 x12_1).f4).length c423_4))) ?hg ?ho ?hn ?hr ?_; (case ho => rfl); (case hg => rfl); (case hn => rfl); (case hr => first | (go_simp; done) | (go_simp; rfl)); intro w40 hw; have n0_ : Aside0 (Kd.V (Kd.int .i64) 3 w40 w.heap.size (fun k_ => (P1_ k_ ∨ w.heap.size ≤ k_) ∧ k_ ≠ gb424) u1 x1_1) := ⟨(by rw [hw]; exact (by (with_reducible repeat (first | apply Kd.V_alloc | apply Kd.V_drewN | apply Kd.V_drew)); exact Kd.V_mono (Kd.V_far (p := ⟨gb424, 4, none⟩) (Kd.V_far (p := ⟨gb424, 3, none⟩) (Kd.V_far (p := ⟨gb424, 2, none⟩) (Kd.V_far (p := ⟨gb424, 1, none⟩) (Kd.V_far (p := ⟨gb424, 0, none⟩) (Kd.V_mono HO_1.out (fun k_ hk => (⟨hk, hk.2⟩ : _ ∧ k_ ≠ gb424))) (fun _ hk => hk.2) (.int .i64 ((rd_T127 l0 x12_1).f0))) (fun _ hk => hk.2) (.int .i64 ((rd_T127 l0 x12_1).f1))) (fun _ hk => hk.2) (.slice A423_2 ((rd_T127 l0 x12_1).f2).length c423_2)) (fun _ hk => hk.2) (.slice A423_3 ((rd_T127 l0 x12_1).f3).length c423_3)) (fun _ hk => hk.2) (.slice A423_4 ((rd_T127 l0 x12_1).f4).length c423_4)) (fun _ hk => ⟨hk.1.1, hk.1.2⟩)))⟩; have n1_ : Aside0 (w40.heap[gb424]? = some (.cells #[.int .i64 ((rd_T127 l0 x12_1).f0), .int .i64 ((rd_T127 l0 x12_1).f1), .slice A423_2 ((rd_T127 l0 x12_1).f2).length c423_2, .slice A423_3 ((rd_T127 l0 x12_1).f3).length c423_3, .slice A423_4 ((rd_T127 l0 x12_1).f4).length c423_4] 127 (0, 0))) := ⟨(by rw [hw]; exact (by (with_reducible repeat (first | refine blk_drewN ?_ _ | refine blk_drew ?_ | refine blk_alloc ?_ _)); refine blk_put (cs := #[.int .i64 ((rd_T127 l0 x12_1).f0), .int .i64 ((rd_T127 l0 x12_1).f1), .slice A423_2 ((rd_T127 l0 x12_1).f2).length c423_2, .slice A423_3 ((rd_T127 l0 x12_1).f3).length c423_3, .slice none 0 0]) ?_ 4 _ rfl; (with_reducible repeat (first | refine blk_drewN ?_ _ | refine blk_drew ?_ | refine blk_alloc ?_ _)); refine blk_put (cs := #[.int .i64 ((rd_T127 l0 x12_1).f0), .int .i64 ((rd_T127 l0 x12_1).f1), .slice A423_2 ((rd_T127 l0 x12_1).f2).length c423_2, .slice none 0 0, .slice none 0 0]) ?_ 3 _ rfl; (with_reducible repeat (first | refine blk_drewN ?_ _ | refine blk_drew ?_ | refine blk_alloc ?_ _)); refine blk_put (cs := #[.int .i64 ((rd_T127 l0 x12_1).f0), .int .i64 ((rd_T127 l0 x12_1).f1), .slice none 0 0, .slice none 0 0, .slice none 0 0]) ?_ 2 _ rfl; (with_reducible repeat (first | refine blk_drewN ?_ _ | refine blk_drew ?_ | refine blk_alloc ?_ _)); refine blk_put (cs := #[.int .i64 ((rd_T127 l0 x12_1).f0), .int .i64 0, .slice none 0 0, .slice none 0 0, .slice none 0 0]) ?_ 1 _ rfl; (with_reducible repeat (first | refine blk_drewN ?_ _ | refine blk_drew ?_ | refine blk_alloc ?_ _)); refine blk_put (cs := #[.int .i64 0, .int .i64 0, .slice none 0 0, .slice none 0 0, .slice none 0 0]) ?_ 0 _ rfl; (with_reducible repeat (first | refine blk_drewN ?_ _ | refine blk_drew ?_ | refine blk_alloc ?_ _)); exact BK424.out))⟩; have n2_ : Aside0 (Below w.heap.size w w40) := ⟨(by rw [hw]; exact (by repeat (first | (with_reducible first | exact HB.out | apply below_alloc | apply pw_below_drewN | apply below_drew1 | refine below_set ?_ GE424.out) | exact HB.out)))⟩; clear hw; clear HO_1; clear BK424; clear HB; have HO_1 := n0_; have BK424 := n1_; have HB := n2_; clear n0_ n1_ n2_; have hcz41_0 : w40.cell? ⟨gb424, 0, none⟩ = some (.int .i64 ((rd_T127 l0 x12_1).f0)) := (blk_cell BK424.out 0).trans rfl; have hcz41_1 : w40.cell? ⟨gb424, 1, none⟩ = some (.int .i64 ((rd_T127 l0 x12_1).f1)) := (blk_cell BK424.out 1).trans rfl; have hcz41_2 : w40.cell? ⟨gb424, 2, none⟩ = some (.slice A423_2 ((rd_T127 l0 x12_1).f2).length c423_2) := (blk_cell BK424.out 2).trans rfl; have hcz41_3 : w40.cell? ⟨gb424, 3, none⟩ = some (.slice A423_3 ((rd_T127 l0 x12_1).f3).length c423_3) := (blk_cell BK424.out 3).trans rfl; have hcz41_4 : w40.cell? ⟨gb424, 4, none⟩ = some (.slice A423_4 ((rd_T127 l0 x12_1).f4).length c423_4) := (blk_cell BK424.out 4).trans rfl; have hfz41_0 := blk_frozen BK424.out 0; have hfz41_1 := blk_frozen BK424.out 1; have hfz41_2 := blk_frozen BK424.out 2; have hfz41_3 := blk_frozen BK424.out 3; have hfz41_4 := blk_frozen BK424.out 4; obtain ⟨Ao42, co42, eo42⟩ := Kd.V_slice HO_1.out; subst eo42; have p428 : 0 ≤ (((rd_T127 l0 x12_1).f1) : Int) := of_decide_eq_true (by first | (with_reducible assumption) | assumption); have q428 : ((rd_T127 l0 x12_1).f1) < (x1_1.length : Int) := of_decide_eq_true (by first | (with_reducible assumption) | assumption); obtain ⟨ad428, e428, hx428_0⟩ := Kd.at_int (Kd.V_reads' HO_1.out).2.2 ((rd_T127 l0 x12_1).f1) p428 q428; cases e428; replace p428 := eq_true p428; replace q428 := eq_true q428) | ((with_reducible refine gate_callee (f := 35) rfl ?_); refine goesL_ (some 37) rfl rfl Try.func35 (by kernel_rfl) rfl #[.slice A423_3 ((rd_T127 l0 x12_1).f3).length c423_3, .slice (some ad428) x1_1.length co42, .int .i64 x2_1] rfl (by (try simp only [List.map_toArray, List.map_cons, List.map_nil]); first | done | rfl | (simp only [List.length_drop, List.length_take]; rfl)) ?_; (with_reducible refine (ih k1 (by have := HK1.out; omega) _ _ ((rd_T127 l0 x12_1).f3) (fun k_ => ((P1_ k_ ∨ w.heap.size ≤ k_) ∧ k_ ≠ gb424)) _ _ x1_1 x2_1 t433 t436 _ ?side1 ?side2 ?side3 A36.out).mono ?_); (case side1 => repeat (first | exact (Kd.C_below HR423_3.out HB.out) | (with_reducible refine Kd.C_alloc ?_ _) | (with_reducible refine Kd.C_drewN ?_ _) | (with_reducible refine Kd.C_drew ?_))); (case side2 => exact HC423_3.out); (case side3 => exact HO_1.out); rintro e w43 ⟨v434, rfl, ho0, hb⟩; refine ⟨_, rfl, ?_⟩; have n0_ := Aside0.mk (Kd.V_below (by (with_reducible repeat (first | apply Kd.V_alloc | apply Kd.V_drewN | apply Kd.V_drew)); exact HO_1.out) hb); have n1_ := Aside0.mk (Kd.V_lower (Kd.V_mono (ok' := fun k_ => (P1_ k_ ∨ w.heap.size ≤ k_) ∧ k_ ≠ gb424) ho0 (fun k_ hk_ => ⟨Or.elim hk_ (fun hs_ => hs_.1) (fun hn_ => (.inr (Nat.le_trans (below_size (by repeat (first | (with_reducible first | exact HB.out | apply below_alloc | apply pw_below_drewN | apply below_drew1 | refine below_set ?_ GE424.out) | exact HB.out))) hn_))), Or.elim hk_ (fun hs_ => hs_.2) (fun hn_ => (Kd.freshB (g := gb424) (o := .cells #[.int .i64 ((rd_T127 l0 x12_1).f0), .int .i64 ((rd_T127 l0 x12_1).f1), .slice A423_2 ((rd_T127 l0 x12_1).f2).length c423_2, .slice A423_3 ((rd_T127 l0 x12_1).f3).length c423_3, .slice A423_4 ((rd_T127 l0 x12_1).f4).length c423_4] 127 (0, 0)) (by (with_reducible repeat (first | refine blk_drewN ?_ _ | refine blk_drew ?_ | refine blk_alloc ?_ _)); exact BK424.out) k_ hn_))⟩)) (below_size (by repeat (first | (with_reducible first | exact HB.out | apply below_alloc | apply pw_below_drewN | apply below_drew1 | refine below_set ?_ GE424.out) | exact HB.out)))); have n2_ := Aside0.mk (blk_below (g := gb424) (o := .cells #[.int .i64 ((rd_T127 l0 x12_1).f0), .int .i64 ((rd_T127 l0 x12_1).f1), .slice A423_2 ((rd_T127 l0 x12_1).f2).length c423_2, .slice A423_3 ((rd_T127 l0 x12_1).f3).length c423_3, .slice A423_4 ((rd_T127 l0 x12_1).f4).length c423_4] 127 (0, 0)) (by (with_reducible repeat (first | refine blk_drewN ?_ _ | refine blk_drew ?_ | refine blk_alloc ?_ _)); exact BK424.out) hb); have n3_ := Aside0.mk (below_step (by repeat (first | (with_reducible first | exact HB.out | apply below_alloc | apply pw_below_drewN | apply below_drew1 | refine below_set ?_ GE424.out) | exact HB.out)) hb); clear HO_1; clear BK424; clear HB; have HO_1 := n0_; have HO435 := n1_; have BK424 := n2_; have HB := n3_; clear n0_ n1_ n2_ n3_; (try clear hb); (try clear hb2); (try clear hk); (try clear hi); (try clear ho0)))
                        go_ret2
                        exact ⟨_, by first | rfl | (simp [errW_none, errW_some] <;> rfl) | (simp [*, errW_none, errW_some] <;> rfl), by (with_reducible repeat (first | apply Kd.V_alloc | apply Kd.V_drewN | apply Kd.V_drew)); exact Kd.V_mono HO435.out (fun _ hk => hk.1), by repeat (first | (with_reducible first | exact HB.out | apply below_alloc | apply pw_below_drewN | apply below_drew1 | refine below_set ?_ GE424.out) | exact HB.out)⟩
                      · rw [if_neg c37] at H
                        have c37b0 : decide (t436 < 0) = false := decide_eq_false c37
                        clear c37
                        have H' := Aside0.mk H
                        clear H
                        have p423 : 0 ≤ (x12_1 : Int) := of_decide_eq_true (by first | (with_reducible assumption) | assumption)
                        have q423 : x12_1 < (l0.length : Int) := of_decide_eq_true (by first | (with_reducible assumption) | assumption)
                        obtain ⟨ad423, A423_2, c423_2, A423_3, c423_3, A423_4, c423_4, e423, hx423_0, hx423_1, hx423_2, hx423_3, hx423_4, hl423_2, hi423_2, hl423_3, hi423_3, hl423_4, hi423_4⟩ := at_T127 HR0.out x12_1 p423 q423
                        cases e423
                        replace hx423_0 := (HB.out.cell (World.block_lt_of_cell? w _ hx423_0)).trans hx423_0
                        replace hx423_1 := (HB.out.cell (World.block_lt_of_cell? w _ hx423_1)).trans hx423_1
                        replace hx423_2 := (HB.out.cell (World.block_lt_of_cell? w _ hx423_2)).trans hx423_2
                        replace hx423_3 := (HB.out.cell (World.block_lt_of_cell? w _ hx423_3)).trans hx423_3
                        replace hx423_4 := (HB.out.cell (World.block_lt_of_cell? w _ hx423_4)).trans hx423_4
                        have HR423_2 := Aside0.mk hi423_2
                        have HC423_2 := Aside0.mk hl423_2
                        clear hi423_2 hl423_2
                        have HR423_3 := Aside0.mk hi423_3
                        have HC423_3 := Aside0.mk hl423_3
                        clear hi423_3 hl423_3
                        have HR423_4 := Aside0.mk hi423_4
                        have HC423_4 := Aside0.mk hl423_4
                        clear hi423_4 hl423_4
                        replace p423 := eq_true p423
                        replace q423 := eq_true q423
                        go_wp2_with (first | ((with_reducible refine gate_dst (N := 9) rfl ?_); refine box_event ?hg (N := 9) ?hd (cs := #[.int .i64 0, .int .i64 0, .slice none 0 0, .slice none 0 0, .slice none 0 0]) (t := 127) ?hr ?_; (case hd => rfl); (case hg => rfl); (case hr => first | (go_simp; done) | (go_simp; rfl)); intro gb424 hg w44 hbox hb; have n0_ := Aside0.mk (Kd.V_below (Kd.V_elderB (by (with_reducible repeat (first | apply Kd.V_alloc | apply Kd.V_drewN | apply Kd.V_drew)); exact HO_1.out) gb424 (Nat.le_of_eq hg.symm)) hb); have n1_ := Aside0.mk (below_step (by repeat (first | (with_reducible first | exact HB.out | apply below_alloc | apply pw_below_drewN | apply below_drew1) | exact HB.out)) hb); have n2_ := Aside0.mk (hbox); have n3_ := Aside0.mk ((by rw [hg]; exact (below_size (by repeat (first | (with_reducible first | exact HB.out | apply below_alloc | apply pw_below_drewN | apply below_drew1) | exact HB.out))) : w.heap.size ≤ gb424)); have n4_ := Aside0.mk ((by rw [hg]; exact (below_size (by repeat (first | (with_reducible first | exact HB.out | apply below_alloc | apply pw_below_drewN | apply below_drew1) | exact HB.out))) : w.heap.size ≤ gb424)); clear HO_1; clear HB; have HO_1 := n0_; have HB := n1_; have BK424 := n2_; have GW424 := n3_; have GE424 := n4_; clear n0_ n1_ n2_ n3_ n4_; clear hb hbox hg; have hcz45_0 : w44.cell? ⟨gb424, 0, none⟩ = some (.int .i64 0) := (blk_cell BK424.out 0).trans rfl; have hcz45_1 : w44.cell? ⟨gb424, 1, none⟩ = some (.int .i64 0) := (blk_cell BK424.out 1).trans rfl; have hcz45_2 : w44.cell? ⟨gb424, 2, none⟩ = some (.slice none 0 0) := (blk_cell BK424.out 2).trans rfl; have hcz45_3 : w44.cell? ⟨gb424, 3, none⟩ = some (.slice none 0 0) := (blk_cell BK424.out 3).trans rfl; have hcz45_4 : w44.cell? ⟨gb424, 4, none⟩ = some (.slice none 0 0) := (blk_cell BK424.out 4).trans rfl; have hfz45_0 := blk_frozen BK424.out 0; have hfz45_1 := blk_frozen BK424.out 1; have hfz45_2 := blk_frozen BK424.out 2; have hfz45_3 := blk_frozen BK424.out 3; have hfz45_4 := blk_frozen BK424.out 4) | ((with_reducible refine gate_store (t := 127) (p := 9) rfl ?_); refine store_event (t := 127) (p := 9) (v := ?vo_w46) (w1 := (((((w44.setCell ⟨gb424, 0, none⟩ (.int .i64 ((rd_T127 l0 x12_1).f0))).setCell ⟨gb424, 1, none⟩ (.int .i64 ((rd_T127 l0 x12_1).f1))).setCell ⟨gb424, 2, none⟩ (.slice A423_2 ((rd_T127 l0 x12_1).f2).length c423_2)).setCell ⟨gb424, 3, none⟩ (.slice A423_3 ((rd_T127 l0 x12_1).f3).length c423_3)).setCell ⟨gb424, 4, none⟩ (.slice A423_4 ((rd_T127 l0 x12_1).f4).length c423_4))) ?hg ?ho ?hn ?hr ?_; (case ho => rfl); (case hg => rfl); (case hn => rfl); (case hr => first | (go_simp; done) | (go_simp; rfl)); intro w46 hw; have n0_ : Aside0 (Kd.V (Kd.int .i64) 3 w46 w.heap.size (fun k_ => (P1_ k_ ∨ w.heap.size ≤ k_) ∧ k_ ≠ gb424) u1 x1_1) := ⟨(by rw [hw]; exact (by (with_reducible repeat (first | apply Kd.V_alloc | apply Kd.V_drewN | apply Kd.V_drew)); exact Kd.V_mono (Kd.V_far (p := ⟨gb424, 4, none⟩) (Kd.V_far (p := ⟨gb424, 3, none⟩) (Kd.V_far (p := ⟨gb424, 2, none⟩) (Kd.V_far (p := ⟨gb424, 1, none⟩) (Kd.V_far (p := ⟨gb424, 0, none⟩) (Kd.V_mono HO_1.out (fun k_ hk => (⟨hk, hk.2⟩ : _ ∧ k_ ≠ gb424))) (fun _ hk => hk.2) (.int .i64 ((rd_T127 l0 x12_1).f0))) (fun _ hk => hk.2) (.int .i64 ((rd_T127 l0 x12_1).f1))) (fun _ hk => hk.2) (.slice A423_2 ((rd_T127 l0 x12_1).f2).length c423_2)) (fun _ hk => hk.2) (.slice A423_3 ((rd_T127 l0 x12_1).f3).length c423_3)) (fun _ hk => hk.2) (.slice A423_4 ((rd_T127 l0 x12_1).f4).length c423_4)) (fun _ hk => ⟨hk.1.1, hk.1.2⟩)))⟩; have n1_ : Aside0 (w46.heap[gb424]? = some (.cells #[.int .i64 ((rd_T127 l0 x12_1).f0), .int .i64 ((rd_T127 l0 x12_1).f1), .slice A423_2 ((rd_T127 l0 x12_1).f2).length c423_2, .slice A423_3 ((rd_T127 l0 x12_1).f3).length c423_3, .slice A423_4 ((rd_T127 l0 x12_1).f4).length c423_4] 127 (0, 0))) := ⟨(by rw [hw]; exact (by (with_reducible repeat (first | refine blk_drewN ?_ _ | refine blk_drew ?_ | refine blk_alloc ?_ _)); refine blk_put (cs := #[.int .i64 ((rd_T127 l0 x12_1).f0), .int .i64 ((rd_T127 l0 x12_1).f1), .slice A423_2 ((rd_T127 l0 x12_1).f2).length c423_2, .slice A423_3 ((rd_T127 l0 x12_1).f3).length c423_3, .slice none 0 0]) ?_ 4 _ rfl; (with_reducible repeat (first | refine blk_drewN ?_ _ | refine blk_drew ?_ | refine blk_alloc ?_ _)); refine blk_put (cs := #[.int .i64 ((rd_T127 l0 x12_1).f0), .int .i64 ((rd_T127 l0 x12_1).f1), .slice A423_2 ((rd_T127 l0 x12_1).f2).length c423_2, .slice none 0 0, .slice none 0 0]) ?_ 3 _ rfl; (with_reducible repeat (first | refine blk_drewN ?_ _ | refine blk_drew ?_ | refine blk_alloc ?_ _)); refine blk_put (cs := #[.int .i64 ((rd_T127 l0 x12_1).f0), .int .i64 ((rd_T127 l0 x12_1).f1), .slice none 0 0, .slice none 0 0, .slice none 0 0]) ?_ 2 _ rfl; (with_reducible repeat (first | refine blk_drewN ?_ _ | refine blk_drew ?_ | refine blk_alloc ?_ _)); refine blk_put (cs := #[.int .i64 ((rd_T127 l0 x12_1).f0), .int .i64 0, .slice none 0 0, .slice none 0 0, .slice none 0 0]) ?_ 1 _ rfl; (with_reducible repeat (first | refine blk_drewN ?_ _ | refine blk_drew ?_ | refine blk_alloc ?_ _)); refine blk_put (cs := #[.int .i64 0, .int .i64 0, .slice none 0 0, .slice none 0 0, .slice none 0 0]) ?_ 0 _ rfl; (with_reducible repeat (first | refine blk_drewN ?_ _ | refine blk_drew ?_ | refine blk_alloc ?_ _)); exact BK424.out))⟩; have n2_ : Aside0 (Below w.heap.size w w46) := ⟨(by rw [hw]; exact (by repeat (first | (with_reducible first | exact HB.out | apply below_alloc | apply pw_below_drewN | apply below_drew1 | refine below_set ?_ GE424.out) | exact HB.out)))⟩; clear hw; clear HO_1; clear BK424; clear HB; have HO_1 := n0_; have BK424 := n1_; have HB := n2_; clear n0_ n1_ n2_; have hcz47_0 : w46.cell? ⟨gb424, 0, none⟩ = some (.int .i64 ((rd_T127 l0 x12_1).f0)) := (blk_cell BK424.out 0).trans rfl; have hcz47_1 : w46.cell? ⟨gb424, 1, none⟩ = some (.int .i64 ((rd_T127 l0 x12_1).f1)) := (blk_cell BK424.out 1).trans rfl; have hcz47_2 : w46.cell? ⟨gb424, 2, none⟩ = some (.slice A423_2 ((rd_T127 l0 x12_1).f2).length c423_2) := (blk_cell BK424.out 2).trans rfl; have hcz47_3 : w46.cell? ⟨gb424, 3, none⟩ = some (.slice A423_3 ((rd_T127 l0 x12_1).f3).length c423_3) := (blk_cell BK424.out 3).trans rfl; have hcz47_4 : w46.cell? ⟨gb424, 4, none⟩ = some (.slice A423_4 ((rd_T127 l0 x12_1).f4).length c423_4) := (blk_cell BK424.out 4).trans rfl; have hfz47_0 := blk_frozen BK424.out 0; have hfz47_1 := blk_frozen BK424.out 1; have hfz47_2 := blk_frozen BK424.out 2; have hfz47_3 := blk_frozen BK424.out 3; have hfz47_4 := blk_frozen BK424.out 4; obtain ⟨Ao48, co48, eo48⟩ := Kd.V_slice HO_1.out; subst eo48; have p428 : 0 ≤ (((rd_T127 l0 x12_1).f1) : Int) := of_decide_eq_true (by first | (with_reducible assumption) | assumption); have q428 : ((rd_T127 l0 x12_1).f1) < (x1_1.length : Int) := of_decide_eq_true (by first | (with_reducible assumption) | assumption); obtain ⟨ad428, e428, hx428_0⟩ := Kd.at_int (Kd.V_reads' HO_1.out).2.2 ((rd_T127 l0 x12_1).f1) p428 q428; cases e428; replace p428 := eq_true p428; replace q428 := eq_true q428) | ((with_reducible refine gate_callee (f := 35) rfl ?_); refine goesL_ (some 37) rfl rfl Try.func35 (by kernel_rfl) rfl #[.slice A423_3 ((rd_T127 l0 x12_1).f3).length c423_3, .slice (some ad428) x1_1.length co48, .int .i64 x2_1] rfl (by (try simp only [List.map_toArray, List.map_cons, List.map_nil]); first | done | rfl | (simp only [List.length_drop, List.length_take]; rfl)) ?_; (with_reducible refine (ih k1 (by have := HK1.out; omega) _ _ ((rd_T127 l0 x12_1).f3) (fun k_ => ((P1_ k_ ∨ w.heap.size ≤ k_) ∧ k_ ≠ gb424)) _ _ x1_1 x2_1 t433 t436 _ ?side1 ?side2 ?side3 A36.out).mono ?_); (case side1 => repeat (first | exact (Kd.C_below HR423_3.out HB.out) | (with_reducible refine Kd.C_alloc ?_ _) | (with_reducible refine Kd.C_drewN ?_ _) | (with_reducible refine Kd.C_drew ?_))); (case side2 => exact HC423_3.out); (case side3 => exact HO_1.out); rintro e w49 ⟨v434, rfl, ho0, hb⟩; refine ⟨_, rfl, ?_⟩; have n0_ := Aside0.mk (Kd.V_below (by (with_reducible repeat (first | apply Kd.V_alloc | apply Kd.V_drewN | apply Kd.V_drew)); exact HO_1.out) hb); have n1_ := Aside0.mk (Kd.V_lower (Kd.V_mono (ok' := fun k_ => (P1_ k_ ∨ w.heap.size ≤ k_) ∧ k_ ≠ gb424) ho0 (fun k_ hk_ => ⟨Or.elim hk_ (fun hs_ => hs_.1) (fun hn_ => (.inr (Nat.le_trans (below_size (by repeat (first | (with_reducible first | exact HB.out | apply below_alloc | apply pw_below_drewN | apply below_drew1 | refine below_set ?_ GE424.out) | exact HB.out))) hn_))), Or.elim hk_ (fun hs_ => hs_.2) (fun hn_ => (Kd.freshB (g := gb424) (o := .cells #[.int .i64 ((rd_T127 l0 x12_1).f0), .int .i64 ((rd_T127 l0 x12_1).f1), .slice A423_2 ((rd_T127 l0 x12_1).f2).length c423_2, .slice A423_3 ((rd_T127 l0 x12_1).f3).length c423_3, .slice A423_4 ((rd_T127 l0 x12_1).f4).length c423_4] 127 (0, 0)) (by (with_reducible repeat (first | refine blk_drewN ?_ _ | refine blk_drew ?_ | refine blk_alloc ?_ _)); exact BK424.out) k_ hn_))⟩)) (below_size (by repeat (first | (with_reducible first | exact HB.out | apply below_alloc | apply pw_below_drewN | apply below_drew1 | refine below_set ?_ GE424.out) | exact HB.out)))); have n2_ := Aside0.mk (blk_below (g := gb424) (o := .cells #[.int .i64 ((rd_T127 l0 x12_1).f0), .int .i64 ((rd_T127 l0 x12_1).f1), .slice A423_2 ((rd_T127 l0 x12_1).f2).length c423_2, .slice A423_3 ((rd_T127 l0 x12_1).f3).length c423_3, .slice A423_4 ((rd_T127 l0 x12_1).f4).length c423_4] 127 (0, 0)) (by (with_reducible repeat (first | refine blk_drewN ?_ _ | refine blk_drew ?_ | refine blk_alloc ?_ _)); exact BK424.out) hb); have n3_ := Aside0.mk (below_step (by repeat (first | (with_reducible first | exact HB.out | apply below_alloc | apply pw_below_drewN | apply below_drew1 | refine below_set ?_ GE424.out) | exact HB.out)) hb); clear HO_1; clear BK424; clear HB; have HO_1 := n0_; have HO435 := n1_; have BK424 := n2_; have HB := n3_; clear n0_ n1_ n2_ n3_; (try clear hb); (try clear hb2); (try clear hk); (try clear hi); (try clear ho0)))
                        go_roundg k1
                        case measure => have := HK1.out; omega
                        case rel => exact ⟨(t433), (t436), (wrap64 (x12_1 + 1)), (by first | rfl | (simp; done) | (simp [*]; done)), (by first | rfl | (simp; done) | (simp [*]; done)), H', ⟨by have := HK1.out; omega⟩, ⟨by (with_reducible repeat (first | apply Kd.V_alloc | apply Kd.V_drewN | apply Kd.V_drew)); exact Kd.V_mono HO435.out (fun _ hk => hk.1)⟩, ⟨by repeat (first | (with_reducible first | exact HB.out | apply below_alloc | apply pw_below_drewN | apply below_drew1 | refine below_set ?_ GE424.out) | exact HB.out)⟩⟩
                  · rw [if_neg c20] at H
                    exact absurd H (by simp)
                · rw [if_neg c19] at H
                  exact absurd H (by simp)
              · rw [if_neg c18] at H
                have c18b0 : (((rd_T127 l0 x12_1).f0) == 2) = false := beq_eq_false_iff_ne.mpr c18
                have c18b1 : (((rd_T127 l0 x12_1).f0) != 2) = true := bne_iff_ne.mpr c18
                by_cases c50 : ((rd_T127 l0 x12_1).f0) = 3
                · rw [if_pos c50] at H
                  have c50b0 : (((rd_T127 l0 x12_1).f0) == 3) = true := beq_iff_eq.mpr c50
                  have c50b1 : (((rd_T127 l0 x12_1).f0) != 3) = false := bne_eq_false_iff_eq.mpr c50
                  clear c50
                  have H' := Aside0.mk H
                  clear H
                  have p423 : 0 ≤ (x12_1 : Int) := of_decide_eq_true (by first | (with_reducible assumption) | assumption)
                  have q423 : x12_1 < (l0.length : Int) := of_decide_eq_true (by first | (with_reducible assumption) | assumption)
                  obtain ⟨ad423, A423_2, c423_2, A423_3, c423_3, A423_4, c423_4, e423, hx423_0, hx423_1, hx423_2, hx423_3, hx423_4, hl423_2, hi423_2, hl423_3, hi423_3, hl423_4, hi423_4⟩ := at_T127 HR0.out x12_1 p423 q423
                  cases e423
                  replace hx423_0 := (HB.out.cell (World.block_lt_of_cell? w _ hx423_0)).trans hx423_0
                  replace hx423_1 := (HB.out.cell (World.block_lt_of_cell? w _ hx423_1)).trans hx423_1
                  replace hx423_2 := (HB.out.cell (World.block_lt_of_cell? w _ hx423_2)).trans hx423_2
                  replace hx423_3 := (HB.out.cell (World.block_lt_of_cell? w _ hx423_3)).trans hx423_3
                  replace hx423_4 := (HB.out.cell (World.block_lt_of_cell? w _ hx423_4)).trans hx423_4
                  have HR423_2 := Aside0.mk hi423_2
                  have HC423_2 := Aside0.mk hl423_2
                  clear hi423_2 hl423_2
                  have HR423_3 := Aside0.mk hi423_3
                  have HC423_3 := Aside0.mk hl423_3
                  clear hi423_3 hl423_3
                  have HR423_4 := Aside0.mk hi423_4
                  have HC423_4 := Aside0.mk hl423_4
                  clear hi423_4 hl423_4
                  replace p423 := eq_true p423
                  replace q423 := eq_true q423
                  go_wp2_with (first | ((with_reducible refine gate_dst (N := 9) rfl ?_); refine box_event ?hg (N := 9) ?hd (cs := #[.int .i64 0, .int .i64 0, .slice none 0 0, .slice none 0 0, .slice none 0 0]) (t := 127) ?hr ?_; (case hd => rfl); (case hg => rfl); (case hr => first | (go_simp; done) | (go_simp; rfl)); intro gb424 hg w51 hbox hb; have n0_ := Aside0.mk (Kd.V_below (Kd.V_elderB (by (with_reducible repeat (first | apply Kd.V_alloc | apply Kd.V_drewN | apply Kd.V_drew)); exact HO_1.out) gb424 (Nat.le_of_eq hg.symm)) hb); have n1_ := Aside0.mk (below_step (by repeat (first | (with_reducible first | exact HB.out | apply below_alloc | apply pw_below_drewN | apply below_drew1) | exact HB.out)) hb); have n2_ := Aside0.mk (hbox); have n3_ := Aside0.mk ((by rw [hg]; exact (below_size (by repeat (first | (with_reducible first | exact HB.out | apply below_alloc | apply pw_below_drewN | apply below_drew1) | exact HB.out))) : w.heap.size ≤ gb424)); have n4_ := Aside0.mk ((by rw [hg]; exact (below_size (by repeat (first | (with_reducible first | exact HB.out | apply below_alloc | apply pw_below_drewN | apply below_drew1) | exact HB.out))) : w.heap.size ≤ gb424)); clear HO_1; clear HB; have HO_1 := n0_; have HB := n1_; have BK424 := n2_; have GW424 := n3_; have GE424 := n4_; clear n0_ n1_ n2_ n3_ n4_; clear hb hbox hg; have hcz52_0 : w51.cell? ⟨gb424, 0, none⟩ = some (.int .i64 0) := (blk_cell BK424.out 0).trans rfl; have hcz52_1 : w51.cell? ⟨gb424, 1, none⟩ = some (.int .i64 0) := (blk_cell BK424.out 1).trans rfl; have hcz52_2 : w51.cell? ⟨gb424, 2, none⟩ = some (.slice none 0 0) := (blk_cell BK424.out 2).trans rfl; have hcz52_3 : w51.cell? ⟨gb424, 3, none⟩ = some (.slice none 0 0) := (blk_cell BK424.out 3).trans rfl; have hcz52_4 : w51.cell? ⟨gb424, 4, none⟩ = some (.slice none 0 0) := (blk_cell BK424.out 4).trans rfl; have hfz52_0 := blk_frozen BK424.out 0; have hfz52_1 := blk_frozen BK424.out 1; have hfz52_2 := blk_frozen BK424.out 2; have hfz52_3 := blk_frozen BK424.out 3; have hfz52_4 := blk_frozen BK424.out 4))
                  go_loopg [1, 2] k1 (fun kq v1 v2 w' => ∃ (x1_2 : List Int) (x2_2 : Int), v2 = .int .i64 x2_2 ∧ Aside0 (codemasonref_Shaped.l1 kq x1_2 x2_2 l0 (l0.length : Int) x12_1 ((rd_T127 l0 x12_1).f0) ((rd_T127 l0 x12_1).f1) ((rd_T127 l0 x12_1).f2) ((rd_T127 l0 x12_1).f3) ((rd_T127 l0 x12_1).f4) = some (r1, r2)) ∧ Aside0 (kq ≤ k1) ∧ Aside0 (Kd.V (Kd.int .i64) 3 w' w.heap.size (fun k_ => (P1_ k_ ∨ w.heap.size ≤ k_) ∧ k_ ≠ gb424) v1 x1_2) ∧ Aside0 (w'.heap[gb424]? = some (.cells #[.int .i64 ((rd_T127 l0 x12_1).f0), .int .i64 ((rd_T127 l0 x12_1).f1), (.slice A423_2 ((rd_T127 l0 x12_1).f2).length c423_2), (.slice A423_3 ((rd_T127 l0 x12_1).f3).length c423_3), (.slice A423_4 ((rd_T127 l0 x12_1).f4).length c423_4)] 127 (0, 0))) ∧ Aside0 (Below w.heap.size w w'))
                  case atStart => exact ⟨(x1_1), (x2_1), (by first | rfl | (simp; done) | (simp [*]; done)), H', ⟨Nat.le_refl _⟩, ⟨by (with_reducible repeat (first | apply Kd.V_alloc | apply Kd.V_drewN | apply Kd.V_drew)); exact Kd.V_mono (Kd.V_far (p := ⟨gb424, 4, none⟩) (Kd.V_far (p := ⟨gb424, 3, none⟩) (Kd.V_far (p := ⟨gb424, 2, none⟩) (Kd.V_far (p := ⟨gb424, 1, none⟩) (Kd.V_far (p := ⟨gb424, 0, none⟩) (Kd.V_mono HO_1.out (fun k_ hk => (⟨hk, hk.2⟩ : _ ∧ k_ ≠ gb424))) (fun _ hk => hk.2) (.int .i64 ((rd_T127 l0 x12_1).f0))) (fun _ hk => hk.2) (.int .i64 ((rd_T127 l0 x12_1).f1))) (fun _ hk => hk.2) (.slice A423_2 ((rd_T127 l0 x12_1).f2).length c423_2)) (fun _ hk => hk.2) (.slice A423_3 ((rd_T127 l0 x12_1).f3).length c423_3)) (fun _ hk => hk.2) (.slice A423_4 ((rd_T127 l0 x12_1).f4).length c423_4)) (fun _ hk => ⟨hk.1.1, hk.1.2⟩)⟩, ⟨by (with_reducible repeat (first | refine blk_drewN ?_ _ | refine blk_drew ?_ | refine blk_alloc ?_ _)); refine blk_put (cs := #[.int .i64 ((rd_T127 l0 x12_1).f0), .int .i64 ((rd_T127 l0 x12_1).f1), .slice A423_2 ((rd_T127 l0 x12_1).f2).length c423_2, .slice A423_3 ((rd_T127 l0 x12_1).f3).length c423_3, .slice none 0 0]) ?_ 4 _ rfl; (with_reducible repeat (first | refine blk_drewN ?_ _ | refine blk_drew ?_ | refine blk_alloc ?_ _)); refine blk_put (cs := #[.int .i64 ((rd_T127 l0 x12_1).f0), .int .i64 ((rd_T127 l0 x12_1).f1), .slice A423_2 ((rd_T127 l0 x12_1).f2).length c423_2, .slice none 0 0, .slice none 0 0]) ?_ 3 _ rfl; (with_reducible repeat (first | refine blk_drewN ?_ _ | refine blk_drew ?_ | refine blk_alloc ?_ _)); refine blk_put (cs := #[.int .i64 ((rd_T127 l0 x12_1).f0), .int .i64 ((rd_T127 l0 x12_1).f1), .slice none 0 0, .slice none 0 0, .slice none 0 0]) ?_ 2 _ rfl; (with_reducible repeat (first | refine blk_drewN ?_ _ | refine blk_drew ?_ | refine blk_alloc ?_ _)); refine blk_put (cs := #[.int .i64 ((rd_T127 l0 x12_1).f0), .int .i64 0, .slice none 0 0, .slice none 0 0, .slice none 0 0]) ?_ 1 _ rfl; (with_reducible repeat (first | refine blk_drewN ?_ _ | refine blk_drew ?_ | refine blk_alloc ?_ _)); refine blk_put (cs := #[.int .i64 0, .int .i64 0, .slice none 0 0, .slice none 0 0, .slice none 0 0]) ?_ 0 _ rfl; (with_reducible repeat (first | refine blk_drewN ?_ _ | refine blk_drew ?_ | refine blk_alloc ?_ _)); exact BK424.out⟩, ⟨by repeat (first | (with_reducible first | exact HB.out | apply below_alloc | apply pw_below_drewN | apply below_drew1 | refine below_set ?_ GE424.out) | exact HB.out)⟩⟩
                  case round =>
                    clear H'
                    try clear c1
                    try clear c2
                    try clear p2
                    try clear c3
                    try clear c4
                    try clear c4b0
                    try clear p4
                    try clear q4
                    try clear hx4
                    try clear c5
                    try clear c5b0
                    try clear c6
                    try clear c6b0
                    try clear p6
                    try clear c7
                    try clear c7b0
                    try clear c7b1
                    try clear c8
                    try clear c9
                    try clear c9b0
                    try clear c18
                    try clear c18b0
                    try clear c18b1
                    try clear c19
                    try clear c19b0
                    try clear c20
                    try clear c20b0
                    try clear c21
                    try clear c21b0
                    try clear c21b1
                    try clear c23
                    try clear c23b0
                    try clear c35
                    try clear c37
                    try clear c37b0
                    try clear c42
                    try clear p42
                    try clear q42
                    try clear hx42
                    try clear c50
                    try clear c50b0
                    try clear c50b1
                    try clear hcz11_0
                    try clear hcz11_1
                    try clear hcz11_2
                    try clear hcz11_3
                    try clear hcz11_4
                    try clear hcz15_0
                    try clear hcz15_1
                    try clear hcz15_2
                    try clear hcz15_3
                    try clear hcz15_4
                    try clear hcz25_0
                    try clear hcz25_1
                    try clear hcz25_2
                    try clear hcz25_3
                    try clear hcz25_4
                    try clear hcz27_0
                    try clear hcz27_1
                    try clear hcz27_2
                    try clear hcz27_3
                    try clear hcz27_4
                    try clear hcz31_0
                    try clear hcz31_1
                    try clear hcz31_2
                    try clear hcz31_3
                    try clear hcz31_4
                    try clear hcz33_0
                    try clear hcz33_1
                    try clear hcz33_2
                    try clear hcz33_3
                    try clear hcz33_4
                    try clear hcz39_0
                    try clear hcz39_1
                    try clear hcz39_2
                    try clear hcz39_3
                    try clear hcz39_4
                    try clear hcz41_0
                    try clear hcz41_1
                    try clear hcz41_2
                    try clear hcz41_3
                    try clear hcz41_4
                    try clear hcz45_0
                    try clear hcz45_1
                    try clear hcz45_2
                    try clear hcz45_3
                    try clear hcz45_4
                    try clear hcz47_0
                    try clear hcz47_1
                    try clear hcz47_2
                    try clear hcz47_3
                    try clear hcz47_4
                    try clear hcz52_0
                    try clear hcz52_1
                    try clear hcz52_2
                    try clear hcz52_3
                    try clear hcz52_4
                    try clear hfz11_0
                    try clear hfz11_1
                    try clear hfz11_2
                    try clear hfz11_3
                    try clear hfz11_4
                    try clear hfz15_0
                    try clear hfz15_1
                    try clear hfz15_2
                    try clear hfz15_3
                    try clear hfz15_4
                    try clear hfz25_0
                    try clear hfz25_1
                    try clear hfz25_2
                    try clear hfz25_3
                    try clear hfz25_4
                    try clear hfz27_0
                    try clear hfz27_1
                    try clear hfz27_2
                    try clear hfz27_3
                    try clear hfz27_4
                    try clear hfz31_0
                    try clear hfz31_1
                    try clear hfz31_2
                    try clear hfz31_3
                    try clear hfz31_4
                    try clear hfz33_0
                    try clear hfz33_1
                    try clear hfz33_2
                    try clear hfz33_3
                    try clear hfz33_4
                    try clear hfz39_0
                    try clear hfz39_1
                    try clear hfz39_2
                    try clear hfz39_3
                    try clear hfz39_4
                    try clear hfz41_0
                    try clear hfz41_1
                    try clear hfz41_2
                    try clear hfz41_3
                    try clear hfz41_4
                    try clear hfz45_0
                    try clear hfz45_1
                    try clear hfz45_2
                    try clear hfz45_3
                    try clear hfz45_4
                    try clear hfz47_0
                    try clear hfz47_1
                    try clear hfz47_2
                    try clear hfz47_3
                    try clear hfz47_4
                    try clear hfz52_0
                    try clear hfz52_1
                    try clear hfz52_2
                    try clear hfz52_3
                    try clear hfz52_4
                    try clear hx423_0
                    try clear hx423_1
                    try clear hx423_2
                    try clear hx423_3
                    try clear hx423_4
                    try clear hx428_0
                    try clear p2
                    try clear p423
                    try clear p428
                    try clear q423
                    try clear q428
                    obtain ⟨x1_2, x2_2, rfl, HA, HK2, HO_1, BK424, HB⟩ := hrel
                    cases gk with
                    | zero => exact absurd HA.out (by simp [codemasonref_Shaped.l1])
                    | succ k2 =>
                      have H := HA.out
                      clear HA
                      simp only [codemasonref_Shaped.l1] at H
                      have HC53 := Aside0.mk H
                      clear H
                      go_upto_region 12 with (fail)
                      go_cut [59] (fun v59 wc => ∃ (kq : Nat) (x59_52 : Bool), v59 = .bool x59_52 ∧ Aside0 (codemasonref_Shaped.j2 kq x1_2 x2_2 l0 (l0.length : Int) x12_1 x59_52 ((rd_T127 l0 x12_1).f0) ((rd_T127 l0 x12_1).f1) ((rd_T127 l0 x12_1).f2) ((rd_T127 l0 x12_1).f3) ((rd_T127 l0 x12_1).f4) = some (r1, r2)) ∧ Aside0 (kq ≤ k2) ∧ Aside0 (Kd.V (Kd.int .i64) 3 wc w.heap.size (fun k_ => (P1_ k_ ∨ w.heap.size ≤ k_) ∧ k_ ≠ gb424) u1 x1_2) ∧ Aside0 (wc.heap[gb424]? = some (.cells #[.int .i64 ((rd_T127 l0 x12_1).f0), .int .i64 ((rd_T127 l0 x12_1).f1), (.slice A423_2 ((rd_T127 l0 x12_1).f2).length c423_2), (.slice A423_3 ((rd_T127 l0 x12_1).f3).length c423_3), (.slice A423_4 ((rd_T127 l0 x12_1).f4).length c423_4)] 127 (0, 0))) ∧ Aside0 (Below w.heap.size w wc))
                      case first =>
                        have H := HC53.out
                        clear HC53
                        by_cases c54 : x2_2 ≥ 0
                        · rw [if_pos c54] at H
                          have c54b0 : decide (0 ≤ x2_2) = true := decide_eq_true c54
                          clear c54
                          (first | rw [c54b0] | (simp only [i64_w, i32_w]; rw [c54b0]) | skip)
                          by_cases c55 : 0 ≤ ((rd_T127 l0 x12_1).f1)
                          · rw [if_pos c55] at H
                            have c55b0 : decide (0 ≤ ((rd_T127 l0 x12_1).f1)) = true := decide_eq_true c55
                            clear c55
                            by_cases c56 : ((rd_T127 l0 x12_1).f1) < (x1_2.length : Int)
                            · rw [if_pos c56] at H
                              have c56b0 : decide (((rd_T127 l0 x12_1).f1) < (x1_2.length : Int)) = true := decide_eq_true c56
                              clear c56
                              have H' := Aside0.mk H
                              clear H
                              have hcz57_0 : wr.cell? ⟨gb424, 0, none⟩ = some (.int .i64 ((rd_T127 l0 x12_1).f0)) := (blk_cell BK424.out 0).trans rfl
                              have hcz57_1 : wr.cell? ⟨gb424, 1, none⟩ = some (.int .i64 ((rd_T127 l0 x12_1).f1)) := (blk_cell BK424.out 1).trans rfl
                              have hcz57_2 : wr.cell? ⟨gb424, 2, none⟩ = some (.slice A423_2 ((rd_T127 l0 x12_1).f2).length c423_2) := (blk_cell BK424.out 2).trans rfl
                              have hcz57_3 : wr.cell? ⟨gb424, 3, none⟩ = some (.slice A423_3 ((rd_T127 l0 x12_1).f3).length c423_3) := (blk_cell BK424.out 3).trans rfl
                              have hcz57_4 : wr.cell? ⟨gb424, 4, none⟩ = some (.slice A423_4 ((rd_T127 l0 x12_1).f4).length c423_4) := (blk_cell BK424.out 4).trans rfl
                              have hfz57_0 := blk_frozen BK424.out 0
                              have hfz57_1 := blk_frozen BK424.out 1
                              have hfz57_2 := blk_frozen BK424.out 2
                              have hfz57_3 := blk_frozen BK424.out 3
                              have hfz57_4 := blk_frozen BK424.out 4
                              obtain ⟨Ao58, co58, eo58⟩ := Kd.V_slice HO_1.out
                              subst eo58
                              have p437 : 0 ≤ (((rd_T127 l0 x12_1).f1) : Int) := of_decide_eq_true (by first | (with_reducible assumption) | assumption)
                              have q437 : ((rd_T127 l0 x12_1).f1) < (x1_2.length : Int) := of_decide_eq_true (by first | (with_reducible assumption) | assumption)
                              obtain ⟨ad437, e437, hx437_0⟩ := Kd.at_int (Kd.V_reads' HO_1.out).2.2 ((rd_T127 l0 x12_1).f1) p437 q437
                              cases e437
                              replace p437 := eq_true p437
                              replace q437 := eq_true q437
                              go_wp2
                              go_meet
                              case rel => exact ⟨_, (((rd x1_2 ((rd_T127 l0 x12_1).f1)) != 0)), (by first | rfl | (simp; done) | (simp [*]; done)), H', ⟨by have := HK1.out; have := HK2.out; first | omega | exact Nat.le_refl _⟩, ⟨by (with_reducible repeat (first | apply Kd.V_alloc | apply Kd.V_drewN | apply Kd.V_drew)); exact HO_1.out⟩, ⟨by (with_reducible repeat (first | refine blk_drewN ?_ _ | refine blk_drew ?_ | refine blk_alloc ?_ _)); exact BK424.out⟩, ⟨by repeat (first | (with_reducible first | exact HB.out | apply below_alloc | apply pw_below_drewN | apply below_drew1 | refine below_set ?_ GE424.out) | exact HB.out)⟩⟩
                            · rw [if_neg c56] at H
                              exact absurd H (by simp)
                          · rw [if_neg c55] at H
                            exact absurd H (by simp)
                        · rw [if_neg c54] at H
                          have c54b0 : decide (0 ≤ x2_2) = false := decide_eq_false c54
                          clear c54
                          (first | rw [c54b0] | (simp only [i64_w, i32_w]; rw [c54b0]) | skip)
                          have H' := Aside0.mk H
                          clear H
                          go_wp2
                          go_meet
                          case rel => exact ⟨_, (false), (by first | rfl | (simp; done) | (simp [*]; done)), H', ⟨by have := HK1.out; have := HK2.out; first | omega | exact Nat.le_refl _⟩, ⟨by (with_reducible repeat (first | apply Kd.V_alloc | apply Kd.V_drewN | apply Kd.V_drew)); exact HO_1.out⟩, ⟨by (with_reducible repeat (first | refine blk_drewN ?_ _ | refine blk_drew ?_ | refine blk_alloc ?_ _)); exact BK424.out⟩, ⟨by repeat (first | (with_reducible first | exact HB.out | apply below_alloc | apply pw_below_drewN | apply below_drew1 | refine below_set ?_ GE424.out) | exact HB.out)⟩⟩
                      case rest =>
                        clear HC53
                        try clear c1
                        try clear c2
                        try clear p2
                        try clear c3
                        try clear c4
                        try clear c4b0
                        try clear p4
                        try clear q4
                        try clear hx4
                        try clear c5
                        try clear c5b0
                        try clear c6
                        try clear c6b0
                        try clear p6
                        try clear c7
                        try clear c7b0
                        try clear c7b1
                        try clear c8
                        try clear c9
                        try clear c9b0
                        try clear c18
                        try clear c18b0
                        try clear c18b1
                        try clear c19
                        try clear c19b0
                        try clear c20
                        try clear c20b0
                        try clear c21
                        try clear c21b0
                        try clear c21b1
                        try clear c23
                        try clear c23b0
                        try clear c35
                        try clear c37
                        try clear c37b0
                        try clear c42
                        try clear p42
                        try clear q42
                        try clear hx42
                        try clear p43
                        try clear q43
                        try clear hx43
                        try clear c50
                        try clear c50b0
                        try clear c50b1
                        try clear c54
                        try clear c54b0
                        try clear c55
                        try clear c55b0
                        try clear c56
                        try clear c56b0
                        try clear hcz11_0
                        try clear hcz11_1
                        try clear hcz11_2
                        try clear hcz11_3
                        try clear hcz11_4
                        try clear hcz15_0
                        try clear hcz15_1
                        try clear hcz15_2
                        try clear hcz15_3
                        try clear hcz15_4
                        try clear hcz25_0
                        try clear hcz25_1
                        try clear hcz25_2
                        try clear hcz25_3
                        try clear hcz25_4
                        try clear hcz27_0
                        try clear hcz27_1
                        try clear hcz27_2
                        try clear hcz27_3
                        try clear hcz27_4
                        try clear hcz31_0
                        try clear hcz31_1
                        try clear hcz31_2
                        try clear hcz31_3
                        try clear hcz31_4
                        try clear hcz33_0
                        try clear hcz33_1
                        try clear hcz33_2
                        try clear hcz33_3
                        try clear hcz33_4
                        try clear hcz39_0
                        try clear hcz39_1
                        try clear hcz39_2
                        try clear hcz39_3
                        try clear hcz39_4
                        try clear hcz41_0
                        try clear hcz41_1
                        try clear hcz41_2
                        try clear hcz41_3
                        try clear hcz41_4
                        try clear hcz45_0
                        try clear hcz45_1
                        try clear hcz45_2
                        try clear hcz45_3
                        try clear hcz45_4
                        try clear hcz47_0
                        try clear hcz47_1
                        try clear hcz47_2
                        try clear hcz47_3
                        try clear hcz47_4
                        try clear hcz52_0
                        try clear hcz52_1
                        try clear hcz52_2
                        try clear hcz52_3
                        try clear hcz52_4
                        try clear hcz57_0
                        try clear hcz57_1
                        try clear hcz57_2
                        try clear hcz57_3
                        try clear hcz57_4
                        try clear hfz11_0
                        try clear hfz11_1
                        try clear hfz11_2
                        try clear hfz11_3
                        try clear hfz11_4
                        try clear hfz15_0
                        try clear hfz15_1
                        try clear hfz15_2
                        try clear hfz15_3
                        try clear hfz15_4
                        try clear hfz25_0
                        try clear hfz25_1
                        try clear hfz25_2
                        try clear hfz25_3
                        try clear hfz25_4
                        try clear hfz27_0
                        try clear hfz27_1
                        try clear hfz27_2
                        try clear hfz27_3
                        try clear hfz27_4
                        try clear hfz31_0
                        try clear hfz31_1
                        try clear hfz31_2
                        try clear hfz31_3
                        try clear hfz31_4
                        try clear hfz33_0
                        try clear hfz33_1
                        try clear hfz33_2
                        try clear hfz33_3
                        try clear hfz33_4
                        try clear hfz39_0
                        try clear hfz39_1
                        try clear hfz39_2
                        try clear hfz39_3
                        try clear hfz39_4
                        try clear hfz41_0
                        try clear hfz41_1
                        try clear hfz41_2
                        try clear hfz41_3
                        try clear hfz41_4
                        try clear hfz45_0
                        try clear hfz45_1
                        try clear hfz45_2
                        try clear hfz45_3
                        try clear hfz45_4
                        try clear hfz47_0
                        try clear hfz47_1
                        try clear hfz47_2
                        try clear hfz47_3
                        try clear hfz47_4
                        try clear hfz52_0
                        try clear hfz52_1
                        try clear hfz52_2
                        try clear hfz52_3
                        try clear hfz52_4
                        try clear hfz57_0
                        try clear hfz57_1
                        try clear hfz57_2
                        try clear hfz57_3
                        try clear hfz57_4
                        try clear hx423_0
                        try clear hx423_1
                        try clear hx423_2
                        try clear hx423_3
                        try clear hx423_4
                        try clear hx428_0
                        try clear hx437_0
                        try clear p2
                        try clear p4
                        try clear p42
                        try clear p423
                        try clear p428
                        try clear p437
                        try clear p6
                        try clear q4
                        try clear q42
                        try clear q423
                        try clear q428
                        try clear q437
                        obtain ⟨kq, x59_52, rfl, HA, HJ52, HO_1, BK424, HB⟩ := hcut
                        cases kq with
                        | zero => exact absurd HA.out (by simp [codemasonref_Shaped.j2])
                        | succ kj52 =>
                          have H := HA.out
                          clear HA
                          simp only [codemasonref_Shaped.j2] at H
                          by_cases c59 : x59_52 = true
                          · subst c59
                            have H1 : (if (wrap64 (x2_2 - 1)) ≥ 0 then ((codemasonref_Shaped.f kj52 ((rd_T127 l0 x12_1).f3) x1_2 (wrap64 (x2_2 - 1))).bind fun bt438 => (codemasonref_Shaped.l1 kj52 bt438.1 bt438.2 l0 (l0.length : Int) x12_1 ((rd_T127 l0 x12_1).f0) ((rd_T127 l0 x12_1).f1) ((rd_T127 l0 x12_1).f2) ((rd_T127 l0 x12_1).f3) ((rd_T127 l0 x12_1).f4))) else (codemasonref_Shaped.l1 kj52 x1_2 (wrap64 (x2_2 - 1)) l0 (l0.length : Int) x12_1 ((rd_T127 l0 x12_1).f0) ((rd_T127 l0 x12_1).f1) ((rd_T127 l0 x12_1).f2) ((rd_T127 l0 x12_1).f3) ((rd_T127 l0 x12_1).f4))) = some (r1, r2) := by rw [if_pos rfl] at H; exact H
                            clear H
                            have H := H1
                            clear H1
                            by_cases c60 : (wrap64 (x2_2 - 1)) ≥ 0
                            · rw [if_pos c60] at H
                              have c60b0 : decide (0 ≤ (wrap64 (x2_2 - 1))) = true := decide_eq_true c60
                              clear c60
                              replace H := Option.bind_eq_some_iff.mp H
                              obtain ⟨⟨t438, t441⟩, A610, H⟩ := H
                              replace H : (codemasonref_Shaped.l1 kj52 t438 t441 l0 (l0.length : Int) x12_1 ((rd_T127 l0 x12_1).f0) ((rd_T127 l0 x12_1).f1) ((rd_T127 l0 x12_1).f2) ((rd_T127 l0 x12_1).f3) ((rd_T127 l0 x12_1).f4)) = some (r1, r2) := H
                              have A61 := Aside0.mk A610
                              clear A610
                              have H' := Aside0.mk H
                              clear H
                              have hcz62_0 : wc.cell? ⟨gb424, 0, none⟩ = some (.int .i64 ((rd_T127 l0 x12_1).f0)) := (blk_cell BK424.out 0).trans rfl
                              have hcz62_1 : wc.cell? ⟨gb424, 1, none⟩ = some (.int .i64 ((rd_T127 l0 x12_1).f1)) := (blk_cell BK424.out 1).trans rfl
                              have hcz62_2 : wc.cell? ⟨gb424, 2, none⟩ = some (.slice A423_2 ((rd_T127 l0 x12_1).f2).length c423_2) := (blk_cell BK424.out 2).trans rfl
                              have hcz62_3 : wc.cell? ⟨gb424, 3, none⟩ = some (.slice A423_3 ((rd_T127 l0 x12_1).f3).length c423_3) := (blk_cell BK424.out 3).trans rfl
                              have hcz62_4 : wc.cell? ⟨gb424, 4, none⟩ = some (.slice A423_4 ((rd_T127 l0 x12_1).f4).length c423_4) := (blk_cell BK424.out 4).trans rfl
                              have hfz62_0 := blk_frozen BK424.out 0
                              have hfz62_1 := blk_frozen BK424.out 1
                              have hfz62_2 := blk_frozen BK424.out 2
                              have hfz62_3 := blk_frozen BK424.out 3
                              have hfz62_4 := blk_frozen BK424.out 4
                              obtain ⟨Ao63, co63, eo63⟩ := Kd.V_slice HO_1.out
                              subst eo63
                              go_wp2_with (first | ((with_reducible refine gate_callee (f := 35) rfl ?_); refine goesL_ (some 69) rfl rfl Try.func35 (by kernel_rfl) rfl #[.slice A423_3 ((rd_T127 l0 x12_1).f3).length c423_3, .slice Ao63 x1_2.length co63, .int .i64 (wrap64 (x2_2 - 1))] rfl (by (try simp only [List.map_toArray, List.map_cons, List.map_nil]); first | done | rfl | (simp only [List.length_drop, List.length_take]; rfl)) ?_; (with_reducible refine (ih kj52 (by have := HK1.out; have := HK2.out; have := HJ52.out; omega) _ _ ((rd_T127 l0 x12_1).f3) (fun k_ => ((P1_ k_ ∨ w.heap.size ≤ k_) ∧ k_ ≠ gb424)) _ _ x1_2 (wrap64 (x2_2 - 1)) t438 t441 _ ?side1 ?side2 ?side3 A61.out).mono ?_); (case side1 => repeat (first | exact (Kd.C_below HR423_3.out HB.out) | (with_reducible refine Kd.C_alloc ?_ _) | (with_reducible refine Kd.C_drewN ?_ _) | (with_reducible refine Kd.C_drew ?_))); (case side2 => exact HC423_3.out); (case side3 => exact HO_1.out); rintro e w64 ⟨v439, rfl, ho0, hb⟩; refine ⟨_, rfl, ?_⟩; have n0_ := Aside0.mk (Kd.V_below (by (with_reducible repeat (first | apply Kd.V_alloc | apply Kd.V_drewN | apply Kd.V_drew)); exact HO_1.out) hb); have n1_ := Aside0.mk (Kd.V_lower (Kd.V_mono (ok' := fun k_ => (P1_ k_ ∨ w.heap.size ≤ k_) ∧ k_ ≠ gb424) ho0 (fun k_ hk_ => ⟨Or.elim hk_ (fun hs_ => hs_.1) (fun hn_ => (.inr (Nat.le_trans (below_size (by repeat (first | (with_reducible first | exact HB.out | apply below_alloc | apply pw_below_drewN | apply below_drew1 | refine below_set ?_ GE424.out) | exact HB.out))) hn_))), Or.elim hk_ (fun hs_ => hs_.2) (fun hn_ => (Kd.freshB (g := gb424) (o := .cells #[.int .i64 ((rd_T127 l0 x12_1).f0), .int .i64 ((rd_T127 l0 x12_1).f1), .slice A423_2 ((rd_T127 l0 x12_1).f2).length c423_2, .slice A423_3 ((rd_T127 l0 x12_1).f3).length c423_3, .slice A423_4 ((rd_T127 l0 x12_1).f4).length c423_4] 127 (0, 0)) (by (with_reducible repeat (first | refine blk_drewN ?_ _ | refine blk_drew ?_ | refine blk_alloc ?_ _)); exact BK424.out) k_ hn_))⟩)) (below_size (by repeat (first | (with_reducible first | exact HB.out | apply below_alloc | apply pw_below_drewN | apply below_drew1 | refine below_set ?_ GE424.out) | exact HB.out)))); have n2_ := Aside0.mk (blk_below (g := gb424) (o := .cells #[.int .i64 ((rd_T127 l0 x12_1).f0), .int .i64 ((rd_T127 l0 x12_1).f1), .slice A423_2 ((rd_T127 l0 x12_1).f2).length c423_2, .slice A423_3 ((rd_T127 l0 x12_1).f3).length c423_3, .slice A423_4 ((rd_T127 l0 x12_1).f4).length c423_4] 127 (0, 0)) (by (with_reducible repeat (first | refine blk_drewN ?_ _ | refine blk_drew ?_ | refine blk_alloc ?_ _)); exact BK424.out) hb); have n3_ := Aside0.mk (below_step (by repeat (first | (with_reducible first | exact HB.out | apply below_alloc | apply pw_below_drewN | apply below_drew1 | refine below_set ?_ GE424.out) | exact HB.out)) hb); clear HO_1; clear BK424; clear HB; have HO_1 := n0_; have HO440 := n1_; have BK424 := n2_; have HB := n3_; clear n0_ n1_ n2_ n3_; (try clear hb); (try clear hb2); (try clear hk); (try clear hi); (try clear ho0)))
                              go_roundg kj52
                              case measure => have := HK1.out; have := HK2.out; have := HJ52.out; omega
                              case rel => exact ⟨(t438), (t441), (by first | rfl | (simp; done) | (simp [*]; done)), H', ⟨by have := HK1.out; have := HK2.out; have := HJ52.out; omega⟩, ⟨by (with_reducible repeat (first | apply Kd.V_alloc | apply Kd.V_drewN | apply Kd.V_drew)); exact HO440.out⟩, ⟨by (with_reducible repeat (first | refine blk_drewN ?_ _ | refine blk_drew ?_ | refine blk_alloc ?_ _)); exact BK424.out⟩, ⟨by repeat (first | (with_reducible first | exact HB.out | apply below_alloc | apply pw_below_drewN | apply below_drew1 | refine below_set ?_ GE424.out) | exact HB.out)⟩⟩
                            · rw [if_neg c60] at H
                              have c60b0 : decide (0 ≤ (wrap64 (x2_2 - 1))) = false := decide_eq_false c60
                              clear c60
                              have H' := Aside0.mk H
                              clear H
                              go_wp2
                              go_roundg kj52
                              case measure => have := HK1.out; have := HK2.out; have := HJ52.out; omega
                              case rel => exact ⟨(x1_2), (wrap64 (x2_2 - 1)), (by first | rfl | (simp; done) | (simp [*]; done)), H', ⟨by have := HK1.out; have := HK2.out; have := HJ52.out; omega⟩, ⟨by (with_reducible repeat (first | apply Kd.V_alloc | apply Kd.V_drewN | apply Kd.V_drew)); exact HO_1.out⟩, ⟨by (with_reducible repeat (first | refine blk_drewN ?_ _ | refine blk_drew ?_ | refine blk_alloc ?_ _)); exact BK424.out⟩, ⟨by repeat (first | (with_reducible first | exact HB.out | apply below_alloc | apply pw_below_drewN | apply below_drew1 | refine below_set ?_ GE424.out) | exact HB.out)⟩⟩
                          · replace c59 := Bool.eq_false_iff.mpr c59
                            subst c59
                            have H1 : (if x2_2 < 0 then (some (x1_2, x2_2)) else (codemasonref_Shaped.l0 kj52 x1_2 x2_2 l0 (l0.length : Int) (wrap64 (x12_1 + 1)))) = some (r1, r2) := by rw [if_neg (show ¬ (false = true) by decide)] at H; exact H
                            clear H
                            have H := H1
                            clear H1
                            by_cases c65 : x2_2 < 0
                            · rw [if_pos c65] at H
                              have c65b0 : decide (x2_2 < 0) = true := decide_eq_true c65
                              clear c65
                              simp only [Option.some.injEq, Prod.mk.injEq] at H
                              obtain ⟨rfl, rfl⟩ := H
                              go_wp2
                              go_ret2
                              exact ⟨_, by first | rfl | (simp [errW_none, errW_some] <;> rfl) | (simp [*, errW_none, errW_some] <;> rfl), by (with_reducible repeat (first | apply Kd.V_alloc | apply Kd.V_drewN | apply Kd.V_drew)); exact Kd.V_mono HO_1.out (fun _ hk => hk.1), by repeat (first | (with_reducible first | exact HB.out | apply below_alloc | apply pw_below_drewN | apply below_drew1 | refine below_set ?_ GE424.out) | exact HB.out)⟩
                            · rw [if_neg c65] at H
                              have c65b0 : decide (x2_2 < 0) = false := decide_eq_false c65
                              clear c65
                              have H' := Aside0.mk H
                              clear H
                              go_wp2
                              go_roundg kj52
                              case measure => have := HK1.out; have := HK2.out; have := HJ52.out; omega
                              case rel => exact ⟨(x1_2), (x2_2), (wrap64 (x12_1 + 1)), (by first | rfl | (simp; done) | (simp [*]; done)), (by first | rfl | (simp; done) | (simp [*]; done)), H', ⟨by have := HK1.out; have := HK2.out; have := HJ52.out; omega⟩, ⟨by (with_reducible repeat (first | apply Kd.V_alloc | apply Kd.V_drewN | apply Kd.V_drew)); exact Kd.V_mono HO_1.out (fun _ hk => hk.1)⟩, ⟨by repeat (first | (with_reducible first | exact HB.out | apply below_alloc | apply pw_below_drewN | apply below_drew1 | refine below_set ?_ GE424.out) | exact HB.out)⟩⟩
                · rw [if_neg c50] at H
                  have c50b0 : (((rd_T127 l0 x12_1).f0) == 3) = false := beq_eq_false_iff_ne.mpr c50
                  have c50b1 : (((rd_T127 l0 x12_1).f0) != 3) = true := bne_iff_ne.mpr c50
                  by_cases c66 : x2_1 < 0
                  · rw [if_pos c66] at H
                    have c66b0 : decide (x2_1 < 0) = true := decide_eq_true c66
                    clear c66
                    simp only [Option.some.injEq, Prod.mk.injEq] at H
                    obtain ⟨rfl, rfl⟩ := H
                    have p423 : 0 ≤ (x12_1 : Int) := of_decide_eq_true (by first | (with_reducible assumption) | assumption)
                    have q423 : x12_1 < (l0.length : Int) := of_decide_eq_true (by first | (with_reducible assumption) | assumption)
                    obtain ⟨ad423, A423_2, c423_2, A423_3, c423_3, A423_4, c423_4, e423, hx423_0, hx423_1, hx423_2, hx423_3, hx423_4, hl423_2, hi423_2, hl423_3, hi423_3, hl423_4, hi423_4⟩ := at_T127 HR0.out x12_1 p423 q423
                    cases e423
                    replace hx423_0 := (HB.out.cell (World.block_lt_of_cell? w _ hx423_0)).trans hx423_0
                    replace hx423_1 := (HB.out.cell (World.block_lt_of_cell? w _ hx423_1)).trans hx423_1
                    replace hx423_2 := (HB.out.cell (World.block_lt_of_cell? w _ hx423_2)).trans hx423_2
                    replace hx423_3 := (HB.out.cell (World.block_lt_of_cell? w _ hx423_3)).trans hx423_3
                    replace hx423_4 := (HB.out.cell (World.block_lt_of_cell? w _ hx423_4)).trans hx423_4
                    have HR423_2 := Aside0.mk hi423_2
                    have HC423_2 := Aside0.mk hl423_2
                    clear hi423_2 hl423_2
                    have HR423_3 := Aside0.mk hi423_3
                    have HC423_3 := Aside0.mk hl423_3
                    clear hi423_3 hl423_3
                    have HR423_4 := Aside0.mk hi423_4
                    have HC423_4 := Aside0.mk hl423_4
                    clear hi423_4 hl423_4
                    replace p423 := eq_true p423
                    replace q423 := eq_true q423
                    go_wp2_with (first | ((with_reducible refine gate_dst (N := 9) rfl ?_); refine box_event ?hg (N := 9) ?hd (cs := #[.int .i64 0, .int .i64 0, .slice none 0 0, .slice none 0 0, .slice none 0 0]) (t := 127) ?hr ?_; (case hd => rfl); (case hg => rfl); (case hr => first | (go_simp; done) | (go_simp; rfl)); intro gb424 hg w67 hbox hb; have n0_ := Aside0.mk (Kd.V_below (Kd.V_elderB (by (with_reducible repeat (first | apply Kd.V_alloc | apply Kd.V_drewN | apply Kd.V_drew)); exact HO_1.out) gb424 (Nat.le_of_eq hg.symm)) hb); have n1_ := Aside0.mk (below_step (by repeat (first | (with_reducible first | exact HB.out | apply below_alloc | apply pw_below_drewN | apply below_drew1) | exact HB.out)) hb); have n2_ := Aside0.mk (hbox); have n3_ := Aside0.mk ((by rw [hg]; exact (below_size (by repeat (first | (with_reducible first | exact HB.out | apply below_alloc | apply pw_below_drewN | apply below_drew1) | exact HB.out))) : w.heap.size ≤ gb424)); have n4_ := Aside0.mk ((by rw [hg]; exact (below_size (by repeat (first | (with_reducible first | exact HB.out | apply below_alloc | apply pw_below_drewN | apply below_drew1) | exact HB.out))) : w.heap.size ≤ gb424)); clear HO_1; clear HB; have HO_1 := n0_; have HB := n1_; have BK424 := n2_; have GW424 := n3_; have GE424 := n4_; clear n0_ n1_ n2_ n3_ n4_; clear hb hbox hg; have hcz68_0 : w67.cell? ⟨gb424, 0, none⟩ = some (.int .i64 0) := (blk_cell BK424.out 0).trans rfl; have hcz68_1 : w67.cell? ⟨gb424, 1, none⟩ = some (.int .i64 0) := (blk_cell BK424.out 1).trans rfl; have hcz68_2 : w67.cell? ⟨gb424, 2, none⟩ = some (.slice none 0 0) := (blk_cell BK424.out 2).trans rfl; have hcz68_3 : w67.cell? ⟨gb424, 3, none⟩ = some (.slice none 0 0) := (blk_cell BK424.out 3).trans rfl; have hcz68_4 : w67.cell? ⟨gb424, 4, none⟩ = some (.slice none 0 0) := (blk_cell BK424.out 4).trans rfl; have hfz68_0 := blk_frozen BK424.out 0; have hfz68_1 := blk_frozen BK424.out 1; have hfz68_2 := blk_frozen BK424.out 2; have hfz68_3 := blk_frozen BK424.out 3; have hfz68_4 := blk_frozen BK424.out 4))
                    go_ret2
                    exact ⟨_, by first | rfl | (simp [errW_none, errW_some] <;> rfl) | (simp [*, errW_none, errW_some] <;> rfl), by (with_reducible repeat (first | apply Kd.V_alloc | apply Kd.V_drewN | apply Kd.V_drew)); exact Kd.V_mono (Kd.V_far (p := ⟨gb424, 4, none⟩) (Kd.V_far (p := ⟨gb424, 3, none⟩) (Kd.V_far (p := ⟨gb424, 2, none⟩) (Kd.V_far (p := ⟨gb424, 1, none⟩) (Kd.V_far (p := ⟨gb424, 0, none⟩) (Kd.V_mono HO_1.out (fun k_ hk => (⟨hk, hk.2⟩ : _ ∧ k_ ≠ gb424))) (fun _ hk => hk.2) (.int .i64 ((rd_T127 l0 x12_1).f0))) (fun _ hk => hk.2) (.int .i64 ((rd_T127 l0 x12_1).f1))) (fun _ hk => hk.2) (.slice A423_2 ((rd_T127 l0 x12_1).f2).length c423_2)) (fun _ hk => hk.2) (.slice A423_3 ((rd_T127 l0 x12_1).f3).length c423_3)) (fun _ hk => hk.2) (.slice A423_4 ((rd_T127 l0 x12_1).f4).length c423_4)) (fun _ hk => hk.1.1), by repeat (first | (with_reducible first | exact HB.out | apply below_alloc | apply pw_below_drewN | apply below_drew1 | refine below_set ?_ GE424.out) | exact HB.out)⟩
                  · rw [if_neg c66] at H
                    have c66b0 : decide (x2_1 < 0) = false := decide_eq_false c66
                    clear c66
                    have H' := Aside0.mk H
                    clear H
                    have p423 : 0 ≤ (x12_1 : Int) := of_decide_eq_true (by first | (with_reducible assumption) | assumption)
                    have q423 : x12_1 < (l0.length : Int) := of_decide_eq_true (by first | (with_reducible assumption) | assumption)
                    obtain ⟨ad423, A423_2, c423_2, A423_3, c423_3, A423_4, c423_4, e423, hx423_0, hx423_1, hx423_2, hx423_3, hx423_4, hl423_2, hi423_2, hl423_3, hi423_3, hl423_4, hi423_4⟩ := at_T127 HR0.out x12_1 p423 q423
                    cases e423
                    replace hx423_0 := (HB.out.cell (World.block_lt_of_cell? w _ hx423_0)).trans hx423_0
                    replace hx423_1 := (HB.out.cell (World.block_lt_of_cell? w _ hx423_1)).trans hx423_1
                    replace hx423_2 := (HB.out.cell (World.block_lt_of_cell? w _ hx423_2)).trans hx423_2
                    replace hx423_3 := (HB.out.cell (World.block_lt_of_cell? w _ hx423_3)).trans hx423_3
                    replace hx423_4 := (HB.out.cell (World.block_lt_of_cell? w _ hx423_4)).trans hx423_4
                    have HR423_2 := Aside0.mk hi423_2
                    have HC423_2 := Aside0.mk hl423_2
                    clear hi423_2 hl423_2
                    have HR423_3 := Aside0.mk hi423_3
                    have HC423_3 := Aside0.mk hl423_3
                    clear hi423_3 hl423_3
                    have HR423_4 := Aside0.mk hi423_4
                    have HC423_4 := Aside0.mk hl423_4
                    clear hi423_4 hl423_4
                    replace p423 := eq_true p423
                    replace q423 := eq_true q423
                    go_wp2_with (first | ((with_reducible refine gate_dst (N := 9) rfl ?_); refine box_event ?hg (N := 9) ?hd (cs := #[.int .i64 0, .int .i64 0, .slice none 0 0, .slice none 0 0, .slice none 0 0]) (t := 127) ?hr ?_; (case hd => rfl); (case hg => rfl); (case hr => first | (go_simp; done) | (go_simp; rfl)); intro gb424 hg w69 hbox hb; have n0_ := Aside0.mk (Kd.V_below (Kd.V_elderB (by (with_reducible repeat (first | apply Kd.V_alloc | apply Kd.V_drewN | apply Kd.V_drew)); exact HO_1.out) gb424 (Nat.le_of_eq hg.symm)) hb); have n1_ := Aside0.mk (below_step (by repeat (first | (with_reducible first | exact HB.out | apply below_alloc | apply pw_below_drewN | apply below_drew1) | exact HB.out)) hb); have n2_ := Aside0.mk (hbox); have n3_ := Aside0.mk ((by rw [hg]; exact (below_size (by repeat (first | (with_reducible first | exact HB.out | apply below_alloc | apply pw_below_drewN | apply below_drew1) | exact HB.out))) : w.heap.size ≤ gb424)); have n4_ := Aside0.mk ((by rw [hg]; exact (below_size (by repeat (first | (with_reducible first | exact HB.out | apply below_alloc | apply pw_below_drewN | apply below_drew1) | exact HB.out))) : w.heap.size ≤ gb424)); clear HO_1; clear HB; have HO_1 := n0_; have HB := n1_; have BK424 := n2_; have GW424 := n3_; have GE424 := n4_; clear n0_ n1_ n2_ n3_ n4_; clear hb hbox hg; have hcz70_0 : w69.cell? ⟨gb424, 0, none⟩ = some (.int .i64 0) := (blk_cell BK424.out 0).trans rfl; have hcz70_1 : w69.cell? ⟨gb424, 1, none⟩ = some (.int .i64 0) := (blk_cell BK424.out 1).trans rfl; have hcz70_2 : w69.cell? ⟨gb424, 2, none⟩ = some (.slice none 0 0) := (blk_cell BK424.out 2).trans rfl; have hcz70_3 : w69.cell? ⟨gb424, 3, none⟩ = some (.slice none 0 0) := (blk_cell BK424.out 3).trans rfl; have hcz70_4 : w69.cell? ⟨gb424, 4, none⟩ = some (.slice none 0 0) := (blk_cell BK424.out 4).trans rfl; have hfz70_0 := blk_frozen BK424.out 0; have hfz70_1 := blk_frozen BK424.out 1; have hfz70_2 := blk_frozen BK424.out 2; have hfz70_3 := blk_frozen BK424.out 3; have hfz70_4 := blk_frozen BK424.out 4))
                    go_roundg k1
                    case measure => have := HK1.out; omega
                    case rel => exact ⟨(x1_1), (x2_1), (wrap64 (x12_1 + 1)), (by first | rfl | (simp; done) | (simp [*]; done)), (by first | rfl | (simp; done) | (simp [*]; done)), H', ⟨by have := HK1.out; omega⟩, ⟨by (with_reducible repeat (first | apply Kd.V_alloc | apply Kd.V_drewN | apply Kd.V_drew)); exact Kd.V_mono (Kd.V_far (p := ⟨gb424, 4, none⟩) (Kd.V_far (p := ⟨gb424, 3, none⟩) (Kd.V_far (p := ⟨gb424, 2, none⟩) (Kd.V_far (p := ⟨gb424, 1, none⟩) (Kd.V_far (p := ⟨gb424, 0, none⟩) (Kd.V_mono HO_1.out (fun k_ hk => (⟨hk, hk.2⟩ : _ ∧ k_ ≠ gb424))) (fun _ hk => hk.2) (.int .i64 ((rd_T127 l0 x12_1).f0))) (fun _ hk => hk.2) (.int .i64 ((rd_T127 l0 x12_1).f1))) (fun _ hk => hk.2) (.slice A423_2 ((rd_T127 l0 x12_1).f2).length c423_2)) (fun _ hk => hk.2) (.slice A423_3 ((rd_T127 l0 x12_1).f3).length c423_3)) (fun _ hk => hk.2) (.slice A423_4 ((rd_T127 l0 x12_1).f4).length c423_4)) (fun _ hk => hk.1.1)⟩, ⟨by repeat (first | (with_reducible first | exact HB.out | apply below_alloc | apply pw_below_drewN | apply below_drew1 | refine below_set ?_ GE424.out) | exact HB.out)⟩⟩
          · rw [if_neg c6] at H
            exact absurd H (by simp)
        · rw [if_neg c5] at H
          exact absurd H (by simp)
      · rw [if_neg c4] at H
        have c4b0 : decide (x12_1 < (l0.length : Int)) = false := decide_eq_false c4
        clear c4
        simp only [Option.some.injEq, Prod.mk.injEq] at H
        obtain ⟨rfl, rfl⟩ := H
        go_wp2
        go_ret2
        exact ⟨_, by first | rfl | (simp [errW_none, errW_some] <;> rfl) | (simp [*, errW_none, errW_some] <;> rfl), by (with_reducible repeat (first | apply Kd.V_alloc | apply Kd.V_drewN | apply Kd.V_drew)); exact HO_1.out, by repeat (first | (with_reducible first | exact HB.out | apply below_alloc | apply pw_below_drewN | apply below_drew1) | exact HB.out)⟩
end Go.Proofs.Ytaicamjpcnhjcaa.PA
namespace Go.Proofs.Ytaicamjpcnhjcaa.PA
open Go.RowKit Go.Proofs.YtaicamjpcnhjcaaW.PrintWords Go.Proofs.YtaicamjpcnhjcaaW.PrintLast
set_option linter.unusedVariables false
set_option linter.unusedSimpArgs false
theorem ev_succ {α : Type} {g : Nat → Option α} {r : α} (h : Ev (fun k => g (k + 1)) r) : Ev g r := by
  obtain ⟨K, h⟩ := h
  exact ⟨K + 1, fun k hk => by
    obtain ⟨m, rfl⟩ : ∃ m, k = m + 1 := ⟨k - 1, by omega⟩
    exact h m (by omega)⟩
theorem ev_ite {α : Type} {c : Prop} [Decidable c] {g f : Nat → Option α} {r : α} (h : c → Ev g r) (k : ¬ c → Ev f r) : Ev (fun n => if c then g n else f n) r := by
  by_cases hc : c
  · simp only [if_pos hc]; exact h hc
  · simp only [if_neg hc]; exact k hc
theorem ev_pos {α : Type} {c : Prop} [Decidable c] {g f : Nat → Option α} {r : α} (hc : c) (h : Ev g r) : Ev (fun n => if c then g n else f n) r := by simp only [if_pos hc]; exact h
theorem ev_neg {α : Type} {c : Prop} [Decidable c] {g f : Nat → Option α} {r : α} (hc : ¬ c) (h : Ev f r) : Ev (fun n => if c then g n else f n) r := by simp only [if_neg hc]; exact h
theorem ev_some {α : Type} {a r : α} (h : a = r) : Ev (fun _ => some a) r := by rw [h]; exact Ev.now r
theorem ev_eq {α : Type} {g : Nat → Option α} {a r : α} (h : Ev g a) (e : a = r) : Ev g r := e ▸ h
theorem down_ind {n : Nat} {P : Nat → Prop} (h0 : P n) (hs : ∀ i, i < n → P (i + 1) → P i) : ∀ i, i ≤ n → P i := by
  have key : ∀ d i, i + d = n → P i := by
    intro d
    induction d with
    | zero => intro i hi; obtain rfl : i = n := by omega
              exact h0
    | succ d ih => intro i hi; exact hs i (by omega) (ih (i + 1) (by omega))
  intro i hi
  exact key (n - i) i (by omega)
theorem rd_nat (l : List Int) (i : Nat) : rd l (i : Int) = l.getD i 0 := rfl
theorem rdT111_nat (l : List S111) (i : Nat) : rd_T111 l (i : Int) = l.getD i z111 := rfl
theorem wrap_in {x : Int} (h1 : -9223372036854775808 ≤ x) (h2 : x ≤ 9223372036854775807) : wrap64 x = x := by unfold wrap64; omega
theorem wrap_nat {i n : Nat} (h : i < n) (hn : n ≤ 9223372036854775807) : wrap64 ((i : Int) + 1) = ((i + 1 : Nat) : Int) := by unfold wrap64; omega
end Go.Proofs.Ytaicamjpcnhjcaa.PA
namespace Go.Proofs.Ytaicamjpcnhjcaa.PA
open Go.RowKit Go.Proofs.YtaicamjpcnhjcaaW.PrintWords Go.Proofs.YtaicamjpcnhjcaaW.PrintLast Go.Proofs.YtaicamjpcnhjcaaW.PrintMore
set_option linter.unusedVariables false
set_option linter.unusedSimpArgs false
def codemasonref_Inside.l0 : Nat → Int → List Int → Int → Int → Option (Bool)
  | 0, _, _, _, _ => none
  | k + 1, x0, x7, x8, x9 => if x9 < x8 then (if 0 ≤ x9 then (if x9 < (x7.length : Int) then (if (rd x7 x9) < 0 then (some false) else (if (rd x7 x9) ≥ x0 then (some false) else (codemasonref_Inside.l0 k x0 x7 x8 (wrap64 (x9 + 1))))) else (none)) else (none)) else (some true)
def codemasonref_Inside.f (k : Nat) (a0 : Int) (l1 : List Int) : Option (Bool) := codemasonref_Inside.l0 k a0 l1 (l1.length : Int) 0
theorem codemasonref_Inside.mono_l : ∀ k, (∀ y0 y1 y2 y3, LeO (codemasonref_Inside.l0 k y0 y1 y2 y3) (codemasonref_Inside.l0 (k + 1) y0 y1 y2 y3))
  | 0 => fun _ _ _ _ r h => by simp [codemasonref_Inside.l0] at h
  | k + 1 => by
    have ih0 := codemasonref_Inside.mono_l k
    · intro y0 y1 y2 y3
      unfold codemasonref_Inside.l0
      repeat' first
      | (with_reducible exact ih0 _ _ _ _)
      | (with_reducible exact LeO.refl _)
      | (with_reducible exact LeO.none _)
      | (with_reducible refine LeO.ite ?_ ?_)
      | (with_reducible refine LeO.bind ?_ (fun _ => ?_))
      | exact ih0 _ _ _ _
      | exact LeO.none _
      | refine LeO.ite ?_ ?_
      | refine LeO.bind ?_ (fun _ => ?_)
theorem codemasonref_Inside.mono : ∀ a0 a1 k, LeO (codemasonref_Inside.f k a0 a1) (codemasonref_Inside.f (k + 1) a0 a1) := by
  intro a0 a1 k
  have ih0 := codemasonref_Inside.mono_l k
  unfold codemasonref_Inside.f
  repeat' first
      | (with_reducible exact ih0 _ _ _ _)
      | (with_reducible exact LeO.refl _)
      | (with_reducible exact LeO.none _)
      | (with_reducible refine LeO.ite ?_ ?_)
      | (with_reducible refine LeO.bind ?_ (fun _ => ?_))
      | exact ih0 _ _ _ _
      | exact LeO.none _
      | refine LeO.ite ?_ ?_
      | refine LeO.bind ?_ (fun _ => ?_)
set_option maxHeartbeats 8000000 in
set_option maxRecDepth 100000 in
theorem codemasonref_Inside.calls (k : Nat) (a0 : Int) (A1 : Option Addr) (c1 : Nat) (l1 : List Int) (r : Bool) (w : World) (hr1 : Kd.C (Kd.int .i64) w A1 l1.length l1) (hc1 : l1.length ≤ c1) (h : codemasonref_Inside.f k a0 l1 = some r) :
    Calls Try.prog 52 #[.int .i64 a0, .slice A1 l1.length c1] w fun e w' => e = .returned (.bool r) ∧ Drawn0 w w' := by
  have HR1 := Aside0.mk hr1
  have HC1 := Aside0.mk hc1
  clear hr1 hc1
  have H : (codemasonref_Inside.l0 k a0 l1 (l1.length : Int) 0) = some r := h
  clear h
  have H' := Aside0.mk H
  clear H
  go_enter Try.func52, Try.ntmps52
  go_wp2
  go_loopg [9] k (fun kq v9 w' => ∃ (x9_1 : Int), v9 = .int .i64 x9_1 ∧ Aside0 (codemasonref_Inside.l0 kq a0 l1 (l1.length : Int) x9_1 = some r) ∧ Aside0 (kq ≤ k) ∧ Drawn0 w w')
  case atStart => exact ⟨(0), (by first | rfl | (simp; done) | (simp [*]; done)), H', ⟨Nat.le_refl _⟩, by repeat (first | exact Drawn0.refl _ | apply Drawn0.step)⟩
  case round =>
    clear H'
    try clear c1
    try clear p2
    obtain ⟨x9_1, rfl, HA, HK1, ⟨m1, rfl⟩⟩ := hrel
    cases gk with
    | zero => exact absurd HA.out (by simp [codemasonref_Inside.l0])
    | succ k1 =>
      have H := HA.out
      clear HA
      simp only [codemasonref_Inside.l0] at H
      by_cases c3 : x9_1 < (l1.length : Int)
      · rw [if_pos c3] at H
        have c3b0 : decide (x9_1 < (l1.length : Int)) = true := decide_eq_true c3
        clear c3
        by_cases c4 : 0 ≤ x9_1
        · rw [if_pos c4] at H
          have c4b0 : decide (0 ≤ x9_1) = true := decide_eq_true c4
          clear c4
          by_cases c5 : x9_1 < (l1.length : Int)
          · rw [if_pos c5] at H
            have c5b0 : decide (x9_1 < (l1.length : Int)) = true := decide_eq_true c5
            clear c5
            by_cases c6 : (rd l1 x9_1) < 0
            · rw [if_pos c6] at H
              have c6b0 : decide ((rd l1 x9_1) < 0) = true := decide_eq_true c6
              clear c6
              obtain rfl := Option.some.inj H
              have p123 : 0 ≤ (x9_1 : Int) := of_decide_eq_true (by first | (with_reducible assumption) | assumption)
              have q123 : x9_1 < (l1.length : Int) := of_decide_eq_true (by first | (with_reducible assumption) | assumption)
              obtain ⟨ad123, e123, hx123_0⟩ := Kd.at_int HR1.out x9_1 p123 q123
              cases e123
              replace p123 := eq_true p123
              replace q123 := eq_true q123
              go_wp2
              go_ret
              exact ⟨by first | rfl | (simp; done) | (simp [*]; done), by repeat (first | exact Drawn0.refl _ | apply Drawn0.step)⟩
            · rw [if_neg c6] at H
              have c6b0 : decide ((rd l1 x9_1) < 0) = false := decide_eq_false c6
              clear c6
              by_cases c7 : (rd l1 x9_1) ≥ a0
              · rw [if_pos c7] at H
                have c7b0 : decide (a0 ≤ (rd l1 x9_1)) = true := decide_eq_true c7
                clear c7
                obtain rfl := Option.some.inj H
                have p123 : 0 ≤ (x9_1 : Int) := of_decide_eq_true (by first | (with_reducible assumption) | assumption)
                have q123 : x9_1 < (l1.length : Int) := of_decide_eq_true (by first | (with_reducible assumption) | assumption)
                obtain ⟨ad123, e123, hx123_0⟩ := Kd.at_int HR1.out x9_1 p123 q123
                cases e123
                replace p123 := eq_true p123
                replace q123 := eq_true q123
                go_wp2
                go_ret
                exact ⟨by first | rfl | (simp; done) | (simp [*]; done), by repeat (first | exact Drawn0.refl _ | apply Drawn0.step)⟩
              · rw [if_neg c7] at H
                have c7b0 : decide (a0 ≤ (rd l1 x9_1)) = false := decide_eq_false c7
                clear c7
                have H' := Aside0.mk H
                clear H
                have p123 : 0 ≤ (x9_1 : Int) := of_decide_eq_true (by first | (with_reducible assumption) | assumption)
                have q123 : x9_1 < (l1.length : Int) := of_decide_eq_true (by first | (with_reducible assumption) | assumption)
                obtain ⟨ad123, e123, hx123_0⟩ := Kd.at_int HR1.out x9_1 p123 q123
                cases e123
                replace p123 := eq_true p123
                replace q123 := eq_true q123
                go_wp2
                go_roundg k1
                case measure => have := HK1.out; omega
                case rel => exact ⟨(wrap64 (x9_1 + 1)), (by first | rfl | (simp; done) | (simp [*]; done)), H', ⟨by have := HK1.out; omega⟩, by repeat (first | exact Drawn0.refl _ | apply Drawn0.step)⟩
          · rw [if_neg c5] at H
            exact absurd H (by simp)
        · rw [if_neg c4] at H
          exact absurd H (by simp)
      · rw [if_neg c3] at H
        have c3b0 : decide (x9_1 < (l1.length : Int)) = false := decide_eq_false c3
        clear c3
        obtain rfl := Option.some.inj H
        go_wp2
        go_ret
        exact ⟨by first | rfl | (simp; done) | (simp [*]; done), by repeat (first | exact Drawn0.refl _ | apply Drawn0.step)⟩
end Go.Proofs.Ytaicamjpcnhjcaa.PA
namespace Go.Proofs.Ytaicamjpcnhjcaa.PA
open Go.RowKit Go.Proofs.YtaicamjpcnhjcaaW.PrintWords Go.Proofs.YtaicamjpcnhjcaaW.PrintLast
set_option linter.unusedVariables false
set_option linter.unusedSimpArgs false
theorem inside_ev (n : Int) (l : List Int) (hl : l.length ≤ 9223372036854775807) : Ev (fun k => codemasonref_Inside.f k n l) (l.all fun x => decide (0 ≤ x) && decide (x < n)) := by
  unfold codemasonref_Inside.f
  have key := down_ind (n := l.length) (P := fun i => Ev (fun k => codemasonref_Inside.l0 k n l l.length i) ((l.drop i).all fun x => decide (0 ≤ x) && decide (x < n))) ?_ ?_ 0 (by omega)
  · exact key
  · refine ev_succ ?_
    simp only [codemasonref_Inside.l0, List.drop_length]
    exact ev_neg (by omega) (Ev.now _)
  · intro i hi ih
    refine ev_succ ?_
    simp only [codemasonref_Inside.l0, wrap_nat hi hl, drop_at 0 hi, List.all_cons, ← rd_nat]
    refine ev_pos (by omega) (ev_pos (by omega) (ev_pos (by omega) ?_))
    generalize rd l i = x
    refine ev_ite (fun h => ev_some ?_) (fun h => ev_ite (fun h2 => ev_some ?_) (fun h2 => ev_eq ih ?_))
    · rw [decide_eq_false (by omega)]; rfl
    · rw [decide_eq_false (show ¬ x < n by omega), Bool.and_false]; rfl
    · rw [decide_eq_true (show 0 ≤ x by omega), decide_eq_true (show x < n by omega)]; rfl
theorem inside1_ev (n x : Int) : Ev (fun k => codemasonref_Inside.f k n [x]) (decide (0 ≤ x ∧ x < n)) := ev_eq (inside_ev n [x] (by simp)) (by simp)
theorem inside2_ev (n x y : Int) : Ev (fun k => codemasonref_Inside.f k n [x, y]) (decide ((0 ≤ x ∧ x < n) ∧ 0 ≤ y ∧ y < n)) := ev_eq (inside_ev n [x, y] (by simp)) (by simp)
theorem value_eq (x : Int) : codemasonref_Value.f x = some (decide (0 ≤ x ∧ x ≤ 255)) := by
  unfold codemasonref_Value.f
  split <;> simp <;> omega
end Go.Proofs.Ytaicamjpcnhjcaa.PA
namespace Go.Proofs.Ytaicamjpcnhjcaa.PA
open Go.RowKit Go.Proofs.YtaicamjpcnhjcaaW.PrintWords Go.Proofs.YtaicamjpcnhjcaaW.PrintLast Go.Proofs.YtaicamjpcnhjcaaW.PrintMore
set_option linter.unusedVariables false
set_option linter.unusedSimpArgs false
mutual
def codemasonref_StepCheck.j0 : Nat → Int → Int → Bool → Int → Int → Int → Int → Int → Option (Int)
  | 0, _, _, _, _, _, _, _, _ => none
  | k + 1, x0, x1, x14, x125000, x125001, x125002, x125003, x125004 => if x14 = true then (some 6) else (if x125000 = 1 then ((codemasonref_Value.f x125004).bind fun t125 => (if t125 = true then (if x125000 = 2 then ((codemasonref_Inside.f k x0 (([x125004] : List Int))).bind fun t129 => (codemasonref_StepCheck.j1 k x1 (!t129) x125000 x125001 x125002 x125003 x125004)) else (codemasonref_StepCheck.j1 k x1 false x125000 x125001 x125002 x125003 x125004)) else (codemasonref_StepCheck.j1 k x1 true x125000 x125001 x125002 x125003 x125004))) else (if x125000 = 2 then ((codemasonref_Inside.f k x0 (([x125004] : List Int))).bind fun t133 => (codemasonref_StepCheck.j1 k x1 (!t133) x125000 x125001 x125002 x125003 x125004)) else (codemasonref_StepCheck.j1 k x1 false x125000 x125001 x125002 x125003 x125004)))
def codemasonref_StepCheck.j1 : Nat → Int → Bool → Int → Int → Int → Int → Int → Option (Int)
  | 0, _, _, _, _, _, _, _ => none
  | k + 1, x1, x36, x125000, x125001, x125002, x125003, x125004 => if x36 = true then (some 4) else ((codemasonref_Inside.f k x1 (([x125001] : List Int))).bind fun t137 => (if t137 = true then (if x125000 ≥ 3 then ((codemasonref_Inside.f k x1 (([x125002, x125003] : List Int))).bind fun t141 => (if t141 = true then (some 0) else (some 2))) else (some 0)) else (some 2)))
end
def codemasonref_StepCheck.f (k : Nat) (a0 : Int) (a1 : Int) (a2_0 : Int) (a2_1 : Int) (a2_2 : Int) (a2_3 : Int) (a2_4 : Int) : Option (Int) := if a2_0 < 1 then (codemasonref_StepCheck.j0 k a0 a1 true a2_0 a2_1 a2_2 a2_3 a2_4) else (codemasonref_StepCheck.j0 k a0 a1 (decide (a2_0 > 6)) a2_0 a2_1 a2_2 a2_3 a2_4)
theorem codemasonref_StepCheck.mono_l : ∀ k, (∀ y0 y1 y2 y3 y4 y5 y6 y7, LeO (codemasonref_StepCheck.j0 k y0 y1 y2 y3 y4 y5 y6 y7) (codemasonref_StepCheck.j0 (k + 1) y0 y1 y2 y3 y4 y5 y6 y7)) ∧ (∀ y0 y1 y2 y3 y4 y5 y6, LeO (codemasonref_StepCheck.j1 k y0 y1 y2 y3 y4 y5 y6) (codemasonref_StepCheck.j1 (k + 1) y0 y1 y2 y3 y4 y5 y6))
  | 0 => ⟨fun _ _ _ _ _ _ _ _ r h => by simp [codemasonref_StepCheck.j0] at h, fun _ _ _ _ _ _ _ r h => by simp [codemasonref_StepCheck.j1] at h⟩
  | k + 1 => by
    obtain ⟨ih0, ih1⟩ := codemasonref_StepCheck.mono_l k
    refine ⟨?_, ?_⟩
    · intro y0 y1 y2 y3 y4 y5 y6 y7
      unfold codemasonref_StepCheck.j0
      repeat' first
      | (with_reducible exact ih0 _ _ _ _ _ _ _ _)
      | (with_reducible exact ih1 _ _ _ _ _ _ _)
      | (with_reducible exact codemasonref_Inside.mono _ _ _)
      | (with_reducible exact LeO.refl _)
      | (with_reducible exact LeO.none _)
      | (with_reducible refine LeO.ite ?_ ?_)
      | (with_reducible refine LeO.bind ?_ (fun _ => ?_))
      | exact ih0 _ _ _ _ _ _ _ _
      | exact ih1 _ _ _ _ _ _ _
      | exact codemasonref_Inside.mono _ _ _
      | exact LeO.none _
      | refine LeO.ite ?_ ?_
      | refine LeO.bind ?_ (fun _ => ?_)
    · intro y0 y1 y2 y3 y4 y5 y6
      unfold codemasonref_StepCheck.j1
      repeat' first
      | (with_reducible exact ih0 _ _ _ _ _ _ _ _)
      | (with_reducible exact ih1 _ _ _ _ _ _ _)
      | (with_reducible exact codemasonref_Inside.mono _ _ _)
      | (with_reducible exact LeO.refl _)
      | (with_reducible exact LeO.none _)
      | (with_reducible refine LeO.ite ?_ ?_)
      | (with_reducible refine LeO.bind ?_ (fun _ => ?_))
      | exact ih0 _ _ _ _ _ _ _ _
      | exact ih1 _ _ _ _ _ _ _
      | exact codemasonref_Inside.mono _ _ _
      | exact LeO.none _
      | refine LeO.ite ?_ ?_
      | refine LeO.bind ?_ (fun _ => ?_)
theorem codemasonref_StepCheck.mono : ∀ a0 a1 a2 a3 a4 a5 a6 k, LeO (codemasonref_StepCheck.f k a0 a1 a2 a3 a4 a5 a6) (codemasonref_StepCheck.f (k + 1) a0 a1 a2 a3 a4 a5 a6) := by
  intro a0 a1 a2 a3 a4 a5 a6 k
  obtain ⟨ih0, ih1⟩ := codemasonref_StepCheck.mono_l k
  unfold codemasonref_StepCheck.f
  repeat' first
      | (with_reducible exact ih0 _ _ _ _ _ _ _ _)
      | (with_reducible exact ih1 _ _ _ _ _ _ _)
      | (with_reducible exact codemasonref_Inside.mono _ _ _)
      | (with_reducible exact LeO.refl _)
      | (with_reducible exact LeO.none _)
      | (with_reducible refine LeO.ite ?_ ?_)
      | (with_reducible refine LeO.bind ?_ (fun _ => ?_))
      | exact ih0 _ _ _ _ _ _ _ _
      | exact ih1 _ _ _ _ _ _ _
      | exact codemasonref_Inside.mono _ _ _
      | exact LeO.none _
      | refine LeO.ite ?_ ?_
      | refine LeO.bind ?_ (fun _ => ?_)
set_option maxHeartbeats 8000000 in
set_option maxRecDepth 100000 in
theorem codemasonref_StepCheck.calls (k : Nat) (a0 : Int) (a1 : Int) (a2_0 : Int) (a2_1 : Int) (a2_2 : Int) (a2_3 : Int) (a2_4 : Int) (r : Int) (w : World) (h : codemasonref_StepCheck.f k a0 a1 a2_0 a2_1 a2_2 a2_3 a2_4 = some r) :
    Calls Try.prog 71 #[.int .i64 a0, .int .i64 a1, .agg #[.int .i64 a2_0, .int .i64 a2_1, .int .i64 a2_2, .int .i64 a2_3, .int .i64 a2_4]] w fun e w' => e = .returned (.int .i64 r) ∧ Below w.heap.size w w' := by
  have hu111 := Try.underlying111
  have HB := Aside0.mk (Below.refl w.heap.size w)
  have H : (if a2_0 < 1 then (codemasonref_StepCheck.j0 k a0 a1 true a2_0 a2_1 a2_2 a2_3 a2_4) else (codemasonref_StepCheck.j0 k a0 a1 (decide (a2_0 > 6)) a2_0 a2_1 a2_2 a2_3 a2_4)) = some r := h
  clear h
  have HC4 := Aside0.mk H
  clear H
  go_enter Try.func71, Try.ntmps71
  go_upto_region 1 with (first | ((with_reducible refine gate_dst (N := 5) rfl ?_); (try (refine gate_guard (by rfl) ?_; dsimp only)); refine box_event ?hg (N := 5) ?hd (cs := #[.int .i64 a2_0, .int .i64 a2_1, .int .i64 a2_2, .int .i64 a2_3, .int .i64 a2_4]) (t := 111) ?hr ?_; (case hd => rfl); (case hg => rfl); (case hr => first | (go_simp; done) | (go_simp; rfl)); intro gb124 hg w5 hbox hb; have n0_ := Aside0.mk (below_step (by repeat (first | (with_reducible first | exact HB.out | apply below_alloc | apply pw_below_drewN | apply below_drew1) | exact HB.out)) hb); have n1_ := Aside0.mk (hbox); have n2_ := Aside0.mk ((by rw [hg]; exact (below_size (by repeat (first | (with_reducible first | exact HB.out | apply below_alloc | apply pw_below_drewN | apply below_drew1) | exact HB.out))) : w.heap.size ≤ gb124)); have n3_ := Aside0.mk ((by rw [hg]; exact (below_size (by repeat (first | (with_reducible first | exact HB.out | apply below_alloc | apply pw_below_drewN | apply below_drew1) | exact HB.out))) : w.heap.size ≤ gb124)); clear HB; have HB := n0_; have BK124 := n1_; have GW124 := n2_; have GE124 := n3_; clear n0_ n1_ n2_ n3_; clear hb hbox hg))
  (try simp only [Act.put, List.setIfInBounds_toArray, List.set_cons_zero, List.set_cons_succ])
  go_cut [14] (fun v14 wc => ∃ (kq : Nat) (x14_3 : Bool), v14 = .bool x14_3 ∧ Aside0 (codemasonref_StepCheck.j0 kq a0 a1 x14_3 a2_0 a2_1 a2_2 a2_3 a2_4 = some r) ∧ Aside0 (kq ≤ k) ∧ Aside0 (wc.heap[gb124]? = some (.cells #[.int .i64 a2_0, .int .i64 a2_1, .int .i64 a2_2, .int .i64 a2_3, .int .i64 a2_4] 111 (0, 0))) ∧ Aside0 (Below w.heap.size w wc))
  case first =>
    have H := HC4.out
    clear HC4
    by_cases c6 : a2_0 < 1
    · rw [if_pos c6] at H
      have c6b0 : decide (a2_0 < 1) = true := decide_eq_true c6
      clear c6
      (first | rw [c6b0] | (simp only [i64_w, i32_w]; rw [c6b0]) | skip)
      have H' := Aside0.mk H
      clear H
      have hcz7_0 : w5.cell? ⟨gb124, 0, none⟩ = some (.int .i64 a2_0) := (blk_cell BK124.out 0).trans rfl
      have hcz7_1 : w5.cell? ⟨gb124, 1, none⟩ = some (.int .i64 a2_1) := (blk_cell BK124.out 1).trans rfl
      have hcz7_2 : w5.cell? ⟨gb124, 2, none⟩ = some (.int .i64 a2_2) := (blk_cell BK124.out 2).trans rfl
      have hcz7_3 : w5.cell? ⟨gb124, 3, none⟩ = some (.int .i64 a2_3) := (blk_cell BK124.out 3).trans rfl
      have hcz7_4 : w5.cell? ⟨gb124, 4, none⟩ = some (.int .i64 a2_4) := (blk_cell BK124.out 4).trans rfl
      have hfz7_0 := blk_frozen BK124.out 0
      have hfz7_1 := blk_frozen BK124.out 1
      have hfz7_2 := blk_frozen BK124.out 2
      have hfz7_3 := blk_frozen BK124.out 3
      have hfz7_4 := blk_frozen BK124.out 4
      go_wp2
      go_meet
      case rel => exact ⟨_, (true), (by first | rfl | (simp; done) | (simp [*]; done)), H', ⟨by first | omega | exact Nat.le_refl _⟩, ⟨by (with_reducible repeat (first | refine blk_drewN ?_ _ | refine blk_drew ?_ | refine blk_alloc ?_ _)); exact BK124.out⟩, ⟨by repeat (first | (with_reducible first | exact HB.out | apply below_alloc | apply pw_below_drewN | apply below_drew1 | refine below_set ?_ GE124.out) | exact HB.out)⟩⟩
    · rw [if_neg c6] at H
      have c6b0 : decide (a2_0 < 1) = false := decide_eq_false c6
      clear c6
      (first | rw [c6b0] | (simp only [i64_w, i32_w]; rw [c6b0]) | skip)
      have H' := Aside0.mk H
      clear H
      have hcz8_0 : w5.cell? ⟨gb124, 0, none⟩ = some (.int .i64 a2_0) := (blk_cell BK124.out 0).trans rfl
      have hcz8_1 : w5.cell? ⟨gb124, 1, none⟩ = some (.int .i64 a2_1) := (blk_cell BK124.out 1).trans rfl
      have hcz8_2 : w5.cell? ⟨gb124, 2, none⟩ = some (.int .i64 a2_2) := (blk_cell BK124.out 2).trans rfl
      have hcz8_3 : w5.cell? ⟨gb124, 3, none⟩ = some (.int .i64 a2_3) := (blk_cell BK124.out 3).trans rfl
      have hcz8_4 : w5.cell? ⟨gb124, 4, none⟩ = some (.int .i64 a2_4) := (blk_cell BK124.out 4).trans rfl
      have hfz8_0 := blk_frozen BK124.out 0
      have hfz8_1 := blk_frozen BK124.out 1
      have hfz8_2 := blk_frozen BK124.out 2
      have hfz8_3 := blk_frozen BK124.out 3
      have hfz8_4 := blk_frozen BK124.out 4
      go_wp2
      go_meet
      case rel => exact ⟨_, (decide (a2_0 > 6)), (by first | rfl | (simp; done) | (simp [*]; done)), H', ⟨by first | omega | exact Nat.le_refl _⟩, ⟨by (with_reducible repeat (first | refine blk_drewN ?_ _ | refine blk_drew ?_ | refine blk_alloc ?_ _)); exact BK124.out⟩, ⟨by repeat (first | (with_reducible first | exact HB.out | apply below_alloc | apply pw_below_drewN | apply below_drew1 | refine below_set ?_ GE124.out) | exact HB.out)⟩⟩
  case rest =>
    clear HC4
    try clear p2
    try clear c6
    try clear c6b0
    try clear c7
    try clear hcz7_0
    try clear hcz7_1
    try clear hcz7_2
    try clear hcz7_3
    try clear hcz7_4
    try clear hcz8_0
    try clear hcz8_1
    try clear hcz8_2
    try clear hcz8_3
    try clear hcz8_4
    try clear hfz7_0
    try clear hfz7_1
    try clear hfz7_2
    try clear hfz7_3
    try clear hfz7_4
    try clear hfz8_0
    try clear hfz8_1
    try clear hfz8_2
    try clear hfz8_3
    try clear hfz8_4
    obtain ⟨kq, x14_3, rfl, HA, HJ3, BK124, HB⟩ := hcut
    cases kq with
    | zero => exact absurd HA.out (by simp [codemasonref_StepCheck.j0])
    | succ kj3 =>
      have H := HA.out
      clear HA
      simp only [codemasonref_StepCheck.j0] at H
      by_cases c9 : x14_3 = true
      · subst c9
        have H1 : (some 6) = some r := by rw [if_pos rfl] at H; exact H
        clear H
        have H := H1
        clear H1
        obtain rfl := Option.some.inj H
        go_wp2
        go_ret
        exact ⟨by first | rfl | (simp [errW_none, errW_some] <;> rfl) | (simp [*, errW_none, errW_some] <;> rfl), by repeat (first | (with_reducible first | exact HB.out | apply below_alloc | apply pw_below_drewN | apply below_drew1 | refine below_set ?_ GE124.out) | exact HB.out)⟩
      · replace c9 := Bool.eq_false_iff.mpr c9
        subst c9
        have H1 : (if a2_0 = 1 then ((codemasonref_Value.f a2_4).bind fun t125 => (if t125 = true then (if a2_0 = 2 then ((codemasonref_Inside.f kj3 a0 (([a2_4] : List Int))).bind fun t129 => (codemasonref_StepCheck.j1 kj3 a1 (!t129) a2_0 a2_1 a2_2 a2_3 a2_4)) else (codemasonref_StepCheck.j1 kj3 a1 false a2_0 a2_1 a2_2 a2_3 a2_4)) else (codemasonref_StepCheck.j1 kj3 a1 true a2_0 a2_1 a2_2 a2_3 a2_4))) else (if a2_0 = 2 then ((codemasonref_Inside.f kj3 a0 (([a2_4] : List Int))).bind fun t133 => (codemasonref_StepCheck.j1 kj3 a1 (!t133) a2_0 a2_1 a2_2 a2_3 a2_4)) else (codemasonref_StepCheck.j1 kj3 a1 false a2_0 a2_1 a2_2 a2_3 a2_4))) = some r := by rw [if_neg (show ¬ (false = true) by decide)] at H; exact H
        clear H
        have H := H1
        clear H1
        have HC10 := Aside0.mk H
        clear H
        go_upto_region 3 with (fail)
        go_cut [36] (fun v36 wc => ∃ (kq : Nat) (x36_9 : Bool), v36 = .bool x36_9 ∧ Aside0 (codemasonref_StepCheck.j1 kq a1 x36_9 a2_0 a2_1 a2_2 a2_3 a2_4 = some r) ∧ Aside0 (kq ≤ kj3) ∧ Aside0 (wc.heap[gb124]? = some (.cells #[.int .i64 a2_0, .int .i64 a2_1, .int .i64 a2_2, .int .i64 a2_3, .int .i64 a2_4] 111 (0, 0))) ∧ Aside0 (Below w.heap.size w wc))
        case first =>
          have H := HC10.out
          clear HC10
          by_cases c11 : a2_0 = 1
          · rw [if_pos c11] at H
            have c11b0 : (a2_0 == 1) = true := beq_iff_eq.mpr c11
            have c11b1 : (a2_0 != 1) = false := bne_eq_false_iff_eq.mpr c11
            clear c11
            (first | rw [c11b0] | (simp only [i64_w, i32_w]; rw [c11b0]) | skip)
            replace H := Option.bind_eq_some_iff.mp H
            obtain ⟨t125, A120, H⟩ := H
            replace H : (if t125 = true then (if a2_0 = 2 then ((codemasonref_Inside.f kj3 a0 (([a2_4] : List Int))).bind fun t129 => (codemasonref_StepCheck.j1 kj3 a1 (!t129) a2_0 a2_1 a2_2 a2_3 a2_4)) else (codemasonref_StepCheck.j1 kj3 a1 false a2_0 a2_1 a2_2 a2_3 a2_4)) else (codemasonref_StepCheck.j1 kj3 a1 true a2_0 a2_1 a2_2 a2_3 a2_4)) = some r := H
            have A12 := Aside0.mk A120
            clear A120
            by_cases c13 : t125 = true
            · subst c13
              have H1 : (if a2_0 = 2 then ((codemasonref_Inside.f kj3 a0 (([a2_4] : List Int))).bind fun t129 => (codemasonref_StepCheck.j1 kj3 a1 (!t129) a2_0 a2_1 a2_2 a2_3 a2_4)) else (codemasonref_StepCheck.j1 kj3 a1 false a2_0 a2_1 a2_2 a2_3 a2_4)) = some r := by rw [if_pos rfl] at H; exact H
              clear H
              have H := H1
              clear H1
              by_cases c14 : a2_0 = 2
              · rw [if_pos c14] at H
                have c14b0 : (a2_0 == 2) = true := beq_iff_eq.mpr c14
                have c14b1 : (a2_0 != 2) = false := bne_eq_false_iff_eq.mpr c14
                clear c14
                obtain ⟨y126, hy126⟩ : ∃ y_ : List Int, y_ = (([a2_4] : List Int)) := ⟨_, rfl⟩
                replace H : ((codemasonref_Inside.f kj3 a0 y126).bind fun t129 => (codemasonref_StepCheck.j1 kj3 a1 (!t129) a2_0 a2_1 a2_2 a2_3 a2_4)) = some r := by first | (rw [hy126]; with_reducible exact H) | (have H2_ := (Option.bind_some _ _).symm.trans H; rw [hy126]; with_reducible exact H2_) | (have H2_ := (Option.bind_some _ _).symm.trans H; with_reducible exact H2_) | with_reducible exact H | (rw [hy126]; exact H) | exact H
                have Ny126 := Aside0.mk hy126
                clear hy126
                replace H := Option.bind_eq_some_iff.mp H
                obtain ⟨t129, A150, H⟩ := H
                replace H : (codemasonref_StepCheck.j1 kj3 a1 (!t129) a2_0 a2_1 a2_2 a2_3 a2_4) = some r := H
                have A15 := Aside0.mk A150
                clear A150
                have H' := Aside0.mk H
                clear H
                have hcz16_0 : wc.cell? ⟨gb124, 0, none⟩ = some (.int .i64 a2_0) := (blk_cell BK124.out 0).trans rfl
                have hcz16_1 : wc.cell? ⟨gb124, 1, none⟩ = some (.int .i64 a2_1) := (blk_cell BK124.out 1).trans rfl
                have hcz16_2 : wc.cell? ⟨gb124, 2, none⟩ = some (.int .i64 a2_2) := (blk_cell BK124.out 2).trans rfl
                have hcz16_3 : wc.cell? ⟨gb124, 3, none⟩ = some (.int .i64 a2_3) := (blk_cell BK124.out 3).trans rfl
                have hcz16_4 : wc.cell? ⟨gb124, 4, none⟩ = some (.int .i64 a2_4) := (blk_cell BK124.out 4).trans rfl
                have hfz16_0 := blk_frozen BK124.out 0
                have hfz16_1 := blk_frozen BK124.out 1
                have hfz16_2 := blk_frozen BK124.out 2
                have hfz16_3 := blk_frozen BK124.out 3
                have hfz16_4 := blk_frozen BK124.out 4
                go_wp2_with (first | (go_at_call 82; (with_reducible refine (codemasonref_Value.calls a2_4 true _ A12.out).mono ?_); rintro e w' ⟨rfl, ⟨nd, rfl⟩⟩) | ((with_reducible refine gate_dst (N := 32) rfl ?_); (try (refine gate_guard (by rfl) ?_; dsimp only)); refine Kd.R_lit (Kd.int .i64) _ 3 ?hg (N := 32) ?hd (xs := ([a2_4] : List Int)) (inner := [.int .i64 a2_4]) (ok := fun _ => True) (okp := fun _ => True) ?hr ?hp (fun _ hk => hk) trivial (Below.refl _ _) (Nat.le_refl _) (by simp) ?_; (case hd => rfl); (case hg => rfl); (case hr => first | (go_simp; done) | (go_simp; rfl)); (case hp => exact (Reps.one (show Kd.M (Kd.int .i64) _ _ _ a2_4 [.int .i64 a2_4] from rfl) (Reps.none _ _))); intro v127 w17 ho18 hb hg_ hnew_; clear hg_ hnew_; (first | rw [← Ny126.out] at ho18 | (simp only [Int.reduceToNat] at ho18; rw [← Ny126.out] at ho18)); have n0_ := Aside0.mk (Kd.R_lower ho18 (below_size (by repeat (first | (with_reducible first | exact HB.out | apply below_alloc | apply pw_below_drewN | apply below_drew1 | refine below_set ?_ GE124.out) | exact HB.out)))); have n1_ := Aside0.mk (blk_below (g := gb124) (o := .cells #[.int .i64 a2_0, .int .i64 a2_1, .int .i64 a2_2, .int .i64 a2_3, .int .i64 a2_4] 111 (0, 0)) (by (with_reducible repeat (first | refine blk_drewN ?_ _ | refine blk_drew ?_ | refine blk_alloc ?_ _)); exact BK124.out) hb); have n2_ := Aside0.mk (below_step (by repeat (first | (with_reducible first | exact HB.out | apply below_alloc | apply pw_below_drewN | apply below_drew1 | refine below_set ?_ GE124.out) | exact HB.out)) hb); clear BK124; clear HB; have HO128 := n0_; have BK124 := n1_; have HB := n2_; clear n0_ n1_ n2_; clear hb ho18; obtain ⟨Ao19, co19, eo19⟩ := Kd.R_slice HO128.out; subst eo19) | (go_at_call 52; (with_reducible refine (codemasonref_Inside.calls kj3 a0 _ _ y126 t129 _ ?side1 ?side2 A15.out).mono ?_); (case side1 => repeat (first | exact (Kd.R_reads' HO128.out).2.2 | (with_reducible refine Kd.C_alloc ?_ _) | (with_reducible refine Kd.C_drewN ?_ _) | (with_reducible refine Kd.C_drew ?_))); (case side2 => exact (Kd.R_reads' HO128.out).2.1); rintro e w' ⟨rfl, ⟨nd, rfl⟩⟩))
                go_meet
                case rel => exact ⟨_, (!t129), (by first | rfl | (simp; done) | (simp [*]; done)), H', ⟨by have := HJ3.out; first | omega | exact Nat.le_refl _⟩, ⟨by (with_reducible repeat (first | refine blk_drewN ?_ _ | refine blk_drew ?_ | refine blk_alloc ?_ _)); exact BK124.out⟩, ⟨by repeat (first | (with_reducible first | exact HB.out | apply below_alloc | apply pw_below_drewN | apply below_drew1 | refine below_set ?_ GE124.out) | exact HB.out)⟩⟩
              · rw [if_neg c14] at H
                have c14b0 : (a2_0 == 2) = false := beq_eq_false_iff_ne.mpr c14
                have c14b1 : (a2_0 != 2) = true := bne_iff_ne.mpr c14
                have H' := Aside0.mk H
                clear H
                have hcz20_0 : wc.cell? ⟨gb124, 0, none⟩ = some (.int .i64 a2_0) := (blk_cell BK124.out 0).trans rfl
                have hcz20_1 : wc.cell? ⟨gb124, 1, none⟩ = some (.int .i64 a2_1) := (blk_cell BK124.out 1).trans rfl
                have hcz20_2 : wc.cell? ⟨gb124, 2, none⟩ = some (.int .i64 a2_2) := (blk_cell BK124.out 2).trans rfl
                have hcz20_3 : wc.cell? ⟨gb124, 3, none⟩ = some (.int .i64 a2_3) := (blk_cell BK124.out 3).trans rfl
                have hcz20_4 : wc.cell? ⟨gb124, 4, none⟩ = some (.int .i64 a2_4) := (blk_cell BK124.out 4).trans rfl
                have hfz20_0 := blk_frozen BK124.out 0
                have hfz20_1 := blk_frozen BK124.out 1
                have hfz20_2 := blk_frozen BK124.out 2
                have hfz20_3 := blk_frozen BK124.out 3
                have hfz20_4 := blk_frozen BK124.out 4
                go_wp2_with (first | (go_at_call 82; (with_reducible refine (codemasonref_Value.calls a2_4 true _ A12.out).mono ?_); rintro e w' ⟨rfl, ⟨nd, rfl⟩⟩))
                go_meet
                case rel => exact ⟨_, (false), (by first | rfl | (simp; done) | (simp [*]; done)), H', ⟨by have := HJ3.out; first | omega | exact Nat.le_refl _⟩, ⟨by (with_reducible repeat (first | refine blk_drewN ?_ _ | refine blk_drew ?_ | refine blk_alloc ?_ _)); exact BK124.out⟩, ⟨by repeat (first | (with_reducible first | exact HB.out | apply below_alloc | apply pw_below_drewN | apply below_drew1 | refine below_set ?_ GE124.out) | exact HB.out)⟩⟩
            · replace c13 := Bool.eq_false_iff.mpr c13
              subst c13
              have H1 : (codemasonref_StepCheck.j1 kj3 a1 true a2_0 a2_1 a2_2 a2_3 a2_4) = some r := by rw [if_neg (show ¬ (false = true) by decide)] at H; exact H
              clear H
              have H := H1
              clear H1
              have H' := Aside0.mk H
              clear H
              have hcz21_0 : wc.cell? ⟨gb124, 0, none⟩ = some (.int .i64 a2_0) := (blk_cell BK124.out 0).trans rfl
              have hcz21_1 : wc.cell? ⟨gb124, 1, none⟩ = some (.int .i64 a2_1) := (blk_cell BK124.out 1).trans rfl
              have hcz21_2 : wc.cell? ⟨gb124, 2, none⟩ = some (.int .i64 a2_2) := (blk_cell BK124.out 2).trans rfl
              have hcz21_3 : wc.cell? ⟨gb124, 3, none⟩ = some (.int .i64 a2_3) := (blk_cell BK124.out 3).trans rfl
              have hcz21_4 : wc.cell? ⟨gb124, 4, none⟩ = some (.int .i64 a2_4) := (blk_cell BK124.out 4).trans rfl
              have hfz21_0 := blk_frozen BK124.out 0
              have hfz21_1 := blk_frozen BK124.out 1
              have hfz21_2 := blk_frozen BK124.out 2
              have hfz21_3 := blk_frozen BK124.out 3
              have hfz21_4 := blk_frozen BK124.out 4
              go_wp2_with (first | (go_at_call 82; (with_reducible refine (codemasonref_Value.calls a2_4 false _ A12.out).mono ?_); rintro e w' ⟨rfl, ⟨nd, rfl⟩⟩))
              go_meet
              case rel => exact ⟨_, (true), (by first | rfl | (simp; done) | (simp [*]; done)), H', ⟨by have := HJ3.out; first | omega | exact Nat.le_refl _⟩, ⟨by (with_reducible repeat (first | refine blk_drewN ?_ _ | refine blk_drew ?_ | refine blk_alloc ?_ _)); exact BK124.out⟩, ⟨by repeat (first | (with_reducible first | exact HB.out | apply below_alloc | apply pw_below_drewN | apply below_drew1 | refine below_set ?_ GE124.out) | exact HB.out)⟩⟩
          · rw [if_neg c11] at H
            have c11b0 : (a2_0 == 1) = false := beq_eq_false_iff_ne.mpr c11
            have c11b1 : (a2_0 != 1) = true := bne_iff_ne.mpr c11
            (first | rw [c11b0] | (simp only [i64_w, i32_w]; rw [c11b0]) | skip)
            by_cases c22 : a2_0 = 2
            · rw [if_pos c22] at H
              have c22b0 : (a2_0 == 2) = true := beq_iff_eq.mpr c22
              have c22b1 : (a2_0 != 2) = false := bne_eq_false_iff_eq.mpr c22
              clear c22
              obtain ⟨y130, hy130⟩ : ∃ y_ : List Int, y_ = (([a2_4] : List Int)) := ⟨_, rfl⟩
              replace H : ((codemasonref_Inside.f kj3 a0 y130).bind fun t133 => (codemasonref_StepCheck.j1 kj3 a1 (!t133) a2_0 a2_1 a2_2 a2_3 a2_4)) = some r := by first | (rw [hy130]; with_reducible exact H) | (have H2_ := (Option.bind_some _ _).symm.trans H; rw [hy130]; with_reducible exact H2_) | (have H2_ := (Option.bind_some _ _).symm.trans H; with_reducible exact H2_) | with_reducible exact H | (rw [hy130]; exact H) | exact H
              have Ny130 := Aside0.mk hy130
              clear hy130
              replace H := Option.bind_eq_some_iff.mp H
              obtain ⟨t133, A230, H⟩ := H
              replace H : (codemasonref_StepCheck.j1 kj3 a1 (!t133) a2_0 a2_1 a2_2 a2_3 a2_4) = some r := H
              have A23 := Aside0.mk A230
              clear A230
              have H' := Aside0.mk H
              clear H
              have hcz24_0 : wc.cell? ⟨gb124, 0, none⟩ = some (.int .i64 a2_0) := (blk_cell BK124.out 0).trans rfl
              have hcz24_1 : wc.cell? ⟨gb124, 1, none⟩ = some (.int .i64 a2_1) := (blk_cell BK124.out 1).trans rfl
              have hcz24_2 : wc.cell? ⟨gb124, 2, none⟩ = some (.int .i64 a2_2) := (blk_cell BK124.out 2).trans rfl
              have hcz24_3 : wc.cell? ⟨gb124, 3, none⟩ = some (.int .i64 a2_3) := (blk_cell BK124.out 3).trans rfl
              have hcz24_4 : wc.cell? ⟨gb124, 4, none⟩ = some (.int .i64 a2_4) := (blk_cell BK124.out 4).trans rfl
              have hfz24_0 := blk_frozen BK124.out 0
              have hfz24_1 := blk_frozen BK124.out 1
              have hfz24_2 := blk_frozen BK124.out 2
              have hfz24_3 := blk_frozen BK124.out 3
              have hfz24_4 := blk_frozen BK124.out 4
              go_wp2_with (first | ((with_reducible refine gate_dst (N := 32) rfl ?_); (try (refine gate_guard (by rfl) ?_; dsimp only)); refine Kd.R_lit (Kd.int .i64) _ 3 ?hg (N := 32) ?hd (xs := ([a2_4] : List Int)) (inner := [.int .i64 a2_4]) (ok := fun _ => True) (okp := fun _ => True) ?hr ?hp (fun _ hk => hk) trivial (Below.refl _ _) (Nat.le_refl _) (by simp) ?_; (case hd => rfl); (case hg => rfl); (case hr => first | (go_simp; done) | (go_simp; rfl)); (case hp => exact (Reps.one (show Kd.M (Kd.int .i64) _ _ _ a2_4 [.int .i64 a2_4] from rfl) (Reps.none _ _))); intro v131 w25 ho26 hb hg_ hnew_; clear hg_ hnew_; (first | rw [← Ny130.out] at ho26 | (simp only [Int.reduceToNat] at ho26; rw [← Ny130.out] at ho26)); have n0_ := Aside0.mk (Kd.R_lower ho26 (below_size (by repeat (first | (with_reducible first | exact HB.out | apply below_alloc | apply pw_below_drewN | apply below_drew1 | refine below_set ?_ GE124.out) | exact HB.out)))); have n1_ := Aside0.mk (blk_below (g := gb124) (o := .cells #[.int .i64 a2_0, .int .i64 a2_1, .int .i64 a2_2, .int .i64 a2_3, .int .i64 a2_4] 111 (0, 0)) (by (with_reducible repeat (first | refine blk_drewN ?_ _ | refine blk_drew ?_ | refine blk_alloc ?_ _)); exact BK124.out) hb); have n2_ := Aside0.mk (below_step (by repeat (first | (with_reducible first | exact HB.out | apply below_alloc | apply pw_below_drewN | apply below_drew1 | refine below_set ?_ GE124.out) | exact HB.out)) hb); clear BK124; clear HB; have HO132 := n0_; have BK124 := n1_; have HB := n2_; clear n0_ n1_ n2_; clear hb ho26; obtain ⟨Ao27, co27, eo27⟩ := Kd.R_slice HO132.out; subst eo27) | (go_at_call 52; (with_reducible refine (codemasonref_Inside.calls kj3 a0 _ _ y130 t133 _ ?side1 ?side2 A23.out).mono ?_); (case side1 => repeat (first | exact (Kd.R_reads' HO132.out).2.2 | (with_reducible refine Kd.C_alloc ?_ _) | (with_reducible refine Kd.C_drewN ?_ _) | (with_reducible refine Kd.C_drew ?_))); (case side2 => exact (Kd.R_reads' HO132.out).2.1); rintro e w' ⟨rfl, ⟨nd, rfl⟩⟩))
              go_meet
              case rel => exact ⟨_, (!t133), (by first | rfl | (simp; done) | (simp [*]; done)), H', ⟨by have := HJ3.out; first | omega | exact Nat.le_refl _⟩, ⟨by (with_reducible repeat (first | refine blk_drewN ?_ _ | refine blk_drew ?_ | refine blk_alloc ?_ _)); exact BK124.out⟩, ⟨by repeat (first | (with_reducible first | exact HB.out | apply below_alloc | apply pw_below_drewN | apply below_drew1 | refine below_set ?_ GE124.out) | exact HB.out)⟩⟩
            · rw [if_neg c22] at H
              have c22b0 : (a2_0 == 2) = false := beq_eq_false_iff_ne.mpr c22
              have c22b1 : (a2_0 != 2) = true := bne_iff_ne.mpr c22
              have H' := Aside0.mk H
              clear H
              have hcz28_0 : wc.cell? ⟨gb124, 0, none⟩ = some (.int .i64 a2_0) := (blk_cell BK124.out 0).trans rfl
              have hcz28_1 : wc.cell? ⟨gb124, 1, none⟩ = some (.int .i64 a2_1) := (blk_cell BK124.out 1).trans rfl
              have hcz28_2 : wc.cell? ⟨gb124, 2, none⟩ = some (.int .i64 a2_2) := (blk_cell BK124.out 2).trans rfl
              have hcz28_3 : wc.cell? ⟨gb124, 3, none⟩ = some (.int .i64 a2_3) := (blk_cell BK124.out 3).trans rfl
              have hcz28_4 : wc.cell? ⟨gb124, 4, none⟩ = some (.int .i64 a2_4) := (blk_cell BK124.out 4).trans rfl
              have hfz28_0 := blk_frozen BK124.out 0
              have hfz28_1 := blk_frozen BK124.out 1
              have hfz28_2 := blk_frozen BK124.out 2
              have hfz28_3 := blk_frozen BK124.out 3
              have hfz28_4 := blk_frozen BK124.out 4
              go_wp2
              go_meet
              case rel => exact ⟨_, (false), (by first | rfl | (simp; done) | (simp [*]; done)), H', ⟨by have := HJ3.out; first | omega | exact Nat.le_refl _⟩, ⟨by (with_reducible repeat (first | refine blk_drewN ?_ _ | refine blk_drew ?_ | refine blk_alloc ?_ _)); exact BK124.out⟩, ⟨by repeat (first | (with_reducible first | exact HB.out | apply below_alloc | apply pw_below_drewN | apply below_drew1 | refine below_set ?_ GE124.out) | exact HB.out)⟩⟩
        case rest =>
          clear HC10
          try clear c1
          try clear c2
          try clear p2
          try clear c6
          try clear c6b0
          try clear c7
          try clear c9
          try clear c11
          try clear c11b0
          try clear c11b1
          try clear c13
          try clear c14
          try clear c14b0
          try clear c14b1
          try clear c22
          try clear c22b0
          try clear c22b1
          try clear hcz16_0
          try clear hcz16_1
          try clear hcz16_2
          try clear hcz16_3
          try clear hcz16_4
          try clear hcz20_0
          try clear hcz20_1
          try clear hcz20_2
          try clear hcz20_3
          try clear hcz20_4
          try clear hcz21_0
          try clear hcz21_1
          try clear hcz21_2
          try clear hcz21_3
          try clear hcz21_4
          try clear hcz24_0
          try clear hcz24_1
          try clear hcz24_2
          try clear hcz24_3
          try clear hcz24_4
          try clear hcz28_0
          try clear hcz28_1
          try clear hcz28_2
          try clear hcz28_3
          try clear hcz28_4
          try clear hcz7_0
          try clear hcz7_1
          try clear hcz7_2
          try clear hcz7_3
          try clear hcz7_4
          try clear hcz8_0
          try clear hcz8_1
          try clear hcz8_2
          try clear hcz8_3
          try clear hcz8_4
          try clear hfz16_0
          try clear hfz16_1
          try clear hfz16_2
          try clear hfz16_3
          try clear hfz16_4
          try clear hfz20_0
          try clear hfz20_1
          try clear hfz20_2
          try clear hfz20_3
          try clear hfz20_4
          try clear hfz21_0
          try clear hfz21_1
          try clear hfz21_2
          try clear hfz21_3
          try clear hfz21_4
          try clear hfz24_0
          try clear hfz24_1
          try clear hfz24_2
          try clear hfz24_3
          try clear hfz24_4
          try clear hfz28_0
          try clear hfz28_1
          try clear hfz28_2
          try clear hfz28_3
          try clear hfz28_4
          try clear hfz7_0
          try clear hfz7_1
          try clear hfz7_2
          try clear hfz7_3
          try clear hfz7_4
          try clear hfz8_0
          try clear hfz8_1
          try clear hfz8_2
          try clear hfz8_3
          try clear hfz8_4
          try clear p2
          obtain ⟨kq, x36_9, rfl, HA, HJ9, BK124, HB⟩ := hcut
          cases kq with
          | zero => exact absurd HA.out (by simp [codemasonref_StepCheck.j1])
          | succ kj9 =>
            have H := HA.out
            clear HA
            simp only [codemasonref_StepCheck.j1] at H
            by_cases c29 : x36_9 = true
            · subst c29
              have H1 : (some 4) = some r := by rw [if_pos rfl] at H; exact H
              clear H
              have H := H1
              clear H1
              obtain rfl := Option.some.inj H
              go_wp2
              go_ret
              exact ⟨by first | rfl | (simp [errW_none, errW_some] <;> rfl) | (simp [*, errW_none, errW_some] <;> rfl), by repeat (first | (with_reducible first | exact HB.out | apply below_alloc | apply pw_below_drewN | apply below_drew1 | refine below_set ?_ GE124.out) | exact HB.out)⟩
            · replace c29 := Bool.eq_false_iff.mpr c29
              subst c29
              have H1 : ((codemasonref_Inside.f kj9 a1 (([a2_1] : List Int))).bind fun t137 => (if t137 = true then (if a2_0 ≥ 3 then ((codemasonref_Inside.f kj9 a1 (([a2_2, a2_3] : List Int))).bind fun t141 => (if t141 = true then (some 0) else (some 2))) else (some 0)) else (some 2))) = some r := by rw [if_neg (show ¬ (false = true) by decide)] at H; exact H
              clear H
              have H := H1
              clear H1
              obtain ⟨y134, hy134⟩ : ∃ y_ : List Int, y_ = (([a2_1] : List Int)) := ⟨_, rfl⟩
              replace H : ((codemasonref_Inside.f kj9 a1 y134).bind fun t137 => (if t137 = true then (if a2_0 ≥ 3 then ((codemasonref_Inside.f kj9 a1 (([a2_2, a2_3] : List Int))).bind fun t141 => (if t141 = true then (some 0) else (some 2))) else (some 0)) else (some 2))) = some r := by first | (rw [hy134]; with_reducible exact H) | (have H2_ := (Option.bind_some _ _).symm.trans H; rw [hy134]; with_reducible exact H2_) | (have H2_ := (Option.bind_some _ _).symm.trans H; with_reducible exact H2_) | with_reducible exact H | (rw [hy134]; exact H) | exact H
              have Ny134 := Aside0.mk hy134
              clear hy134
              replace H := Option.bind_eq_some_iff.mp H
              obtain ⟨t137, A300, H⟩ := H
              replace H : (if t137 = true then (if a2_0 ≥ 3 then ((codemasonref_Inside.f kj9 a1 (([a2_2, a2_3] : List Int))).bind fun t141 => (if t141 = true then (some 0) else (some 2))) else (some 0)) else (some 2)) = some r := H
              have A30 := Aside0.mk A300
              clear A300
              by_cases c31 : t137 = true
              · subst c31
                have H1 : (if a2_0 ≥ 3 then ((codemasonref_Inside.f kj9 a1 (([a2_2, a2_3] : List Int))).bind fun t141 => (if t141 = true then (some 0) else (some 2))) else (some 0)) = some r := by rw [if_pos rfl] at H; exact H
                clear H
                have H := H1
                clear H1
                by_cases c32 : a2_0 ≥ 3
                · rw [if_pos c32] at H
                  have c32b0 : decide (3 ≤ a2_0) = true := decide_eq_true c32
                  clear c32
                  obtain ⟨y138, hy138⟩ : ∃ y_ : List Int, y_ = (([a2_2, a2_3] : List Int)) := ⟨_, rfl⟩
                  replace H : ((codemasonref_Inside.f kj9 a1 y138).bind fun t141 => (if t141 = true then (some 0) else (some 2))) = some r := by first | (rw [hy138]; with_reducible exact H) | (have H2_ := (Option.bind_some _ _).symm.trans H; rw [hy138]; with_reducible exact H2_) | (have H2_ := (Option.bind_some _ _).symm.trans H; with_reducible exact H2_) | with_reducible exact H | (rw [hy138]; exact H) | exact H
                  have Ny138 := Aside0.mk hy138
                  clear hy138
                  replace H := Option.bind_eq_some_iff.mp H
                  obtain ⟨t141, A330, H⟩ := H
                  replace H : (if t141 = true then (some 0) else (some 2)) = some r := H
                  have A33 := Aside0.mk A330
                  clear A330
                  by_cases c34 : t141 = true
                  · subst c34
                    have H1 : (some 0) = some r := by rw [if_pos rfl] at H; exact H
                    clear H
                    have H := H1
                    clear H1
                    obtain rfl := Option.some.inj H
                    have hcz35_0 : wc.cell? ⟨gb124, 0, none⟩ = some (.int .i64 a2_0) := (blk_cell BK124.out 0).trans rfl
                    have hcz35_1 : wc.cell? ⟨gb124, 1, none⟩ = some (.int .i64 a2_1) := (blk_cell BK124.out 1).trans rfl
                    have hcz35_2 : wc.cell? ⟨gb124, 2, none⟩ = some (.int .i64 a2_2) := (blk_cell BK124.out 2).trans rfl
                    have hcz35_3 : wc.cell? ⟨gb124, 3, none⟩ = some (.int .i64 a2_3) := (blk_cell BK124.out 3).trans rfl
                    have hcz35_4 : wc.cell? ⟨gb124, 4, none⟩ = some (.int .i64 a2_4) := (blk_cell BK124.out 4).trans rfl
                    have hfz35_0 := blk_frozen BK124.out 0
                    have hfz35_1 := blk_frozen BK124.out 1
                    have hfz35_2 := blk_frozen BK124.out 2
                    have hfz35_3 := blk_frozen BK124.out 3
                    have hfz35_4 := blk_frozen BK124.out 4
                    go_wp2_with (first | ((with_reducible refine gate_dst (N := 40) rfl ?_); (try (refine gate_guard (by rfl) ?_; dsimp only)); refine Kd.R_lit (Kd.int .i64) _ 3 ?hg (N := 40) ?hd (xs := ([a2_1] : List Int)) (inner := [.int .i64 a2_1]) (ok := fun _ => True) (okp := fun _ => True) ?hr ?hp (fun _ hk => hk) trivial (Below.refl _ _) (Nat.le_refl _) (by simp) ?_; (case hd => rfl); (case hg => rfl); (case hr => first | (go_simp; done) | (go_simp; rfl)); (case hp => exact (Reps.one (show Kd.M (Kd.int .i64) _ _ _ a2_1 [.int .i64 a2_1] from rfl) (Reps.none _ _))); intro v135 w36 ho37 hb hg_ hnew_; clear hg_ hnew_; (first | rw [← Ny134.out] at ho37 | (simp only [Int.reduceToNat] at ho37; rw [← Ny134.out] at ho37)); have n0_ := Aside0.mk (Kd.R_lower ho37 (below_size (by repeat (first | (with_reducible first | exact HB.out | apply below_alloc | apply pw_below_drewN | apply below_drew1 | refine below_set ?_ GE124.out) | exact HB.out)))); have n1_ := Aside0.mk (blk_below (g := gb124) (o := .cells #[.int .i64 a2_0, .int .i64 a2_1, .int .i64 a2_2, .int .i64 a2_3, .int .i64 a2_4] 111 (0, 0)) (by (with_reducible repeat (first | refine blk_drewN ?_ _ | refine blk_drew ?_ | refine blk_alloc ?_ _)); exact BK124.out) hb); have n2_ := Aside0.mk (below_step (by repeat (first | (with_reducible first | exact HB.out | apply below_alloc | apply pw_below_drewN | apply below_drew1 | refine below_set ?_ GE124.out) | exact HB.out)) hb); clear BK124; clear HB; have HO136 := n0_; have BK124 := n1_; have HB := n2_; clear n0_ n1_ n2_; clear hb ho37; obtain ⟨Ao38, co38, eo38⟩ := Kd.R_slice HO136.out; subst eo38) | ((with_reducible refine gate_callee (f := 52) rfl ?_); refine goesL_ (some 41) rfl rfl Try.func52 (by kernel_rfl) rfl #[.int .i64 a1, .slice Ao38 y134.length co38] rfl (by (try simp only [List.map_toArray, List.map_cons, List.map_nil]); first | done | rfl | (simp only [List.length_drop, List.length_take]; rfl)) ?_; (with_reducible refine (codemasonref_Inside.calls kj9 a1 _ _ y134 true _ ?side1 ?side2 A30.out).mono ?_); (case side1 => repeat (first | exact (Kd.R_reads' HO136.out).2.2 | (with_reducible refine Kd.C_alloc ?_ _) | (with_reducible refine Kd.C_drewN ?_ _) | (with_reducible refine Kd.C_drew ?_))); (case side2 => exact (Kd.R_reads' HO136.out).2.1); rintro e w' ⟨rfl, ⟨nd, rfl⟩⟩; refine ⟨_, rfl, ?_⟩; have hcz39_0 : w36.cell? ⟨gb124, 0, none⟩ = some (.int .i64 a2_0) := (blk_cell BK124.out 0).trans rfl; have hcz39_1 : w36.cell? ⟨gb124, 1, none⟩ = some (.int .i64 a2_1) := (blk_cell BK124.out 1).trans rfl; have hcz39_2 : w36.cell? ⟨gb124, 2, none⟩ = some (.int .i64 a2_2) := (blk_cell BK124.out 2).trans rfl; have hcz39_3 : w36.cell? ⟨gb124, 3, none⟩ = some (.int .i64 a2_3) := (blk_cell BK124.out 3).trans rfl; have hcz39_4 : w36.cell? ⟨gb124, 4, none⟩ = some (.int .i64 a2_4) := (blk_cell BK124.out 4).trans rfl; have hfz39_0 := blk_frozen BK124.out 0; have hfz39_1 := blk_frozen BK124.out 1; have hfz39_2 := blk_frozen BK124.out 2; have hfz39_3 := blk_frozen BK124.out 3; have hfz39_4 := blk_frozen BK124.out 4) | ((with_reducible refine gate_dst (N := 53) rfl ?_); (try (refine gate_guard (by rfl) ?_; dsimp only)); refine Kd.R_lit (Kd.int .i64) _ 3 ?hg (N := 53) ?hd (xs := ([a2_2, a2_3] : List Int)) (inner := [.int .i64 a2_2, .int .i64 a2_3]) (ok := fun _ => True) (okp := fun _ => True) ?hr ?hp (fun _ hk => hk) trivial (Below.refl _ _) (Nat.le_refl _) (by simp) ?_; (case hd => rfl); (case hg => rfl); (case hr => first | (go_simp; done) | (go_simp; rfl)); (case hp => exact (Reps.one (show Kd.M (Kd.int .i64) _ _ _ a2_2 [.int .i64 a2_2] from rfl) (Reps.one (show Kd.M (Kd.int .i64) _ _ _ a2_3 [.int .i64 a2_3] from rfl) (Reps.none _ _)))); intro v139 w40 ho41 hb hg_ hnew_; clear hg_ hnew_; (first | rw [← Ny138.out] at ho41 | (simp only [Int.reduceToNat] at ho41; rw [← Ny138.out] at ho41)); have n0_ := Aside0.mk (Kd.R_elder' (by (with_reducible repeat (first | apply Kd.R_alloc | apply Kd.R_drewN | apply Kd.R_drew)); exact HO136.out) (Kd.R_base ho41) hb); have n1_ := Aside0.mk (Kd.R_lower (Kd.R_new' ho41 (Kd.R_lt (by (with_reducible repeat (first | apply Kd.R_alloc | apply Kd.R_drewN | apply Kd.R_drew)); exact HO136.out))) (below_size (by repeat (first | (with_reducible first | exact HB.out | apply below_alloc | apply pw_below_drewN | apply below_drew1 | refine below_set ?_ GE124.out) | exact HB.out)))); have n2_ := Aside0.mk (blk_below (g := gb124) (o := .cells #[.int .i64 a2_0, .int .i64 a2_1, .int .i64 a2_2, .int .i64 a2_3, .int .i64 a2_4] 111 (0, 0)) (by (with_reducible repeat (first | refine blk_drewN ?_ _ | refine blk_drew ?_ | refine blk_alloc ?_ _)); exact BK124.out) hb); have n3_ := Aside0.mk (below_step (by repeat (first | (with_reducible first | exact HB.out | apply below_alloc | apply pw_below_drewN | apply below_drew1 | refine below_set ?_ GE124.out) | exact HB.out)) hb); clear HO136; clear BK124; clear HB; have HO136 := n0_; have HO140 := n1_; have BK124 := n2_; have HB := n3_; clear n0_ n1_ n2_ n3_; clear hb ho41; obtain ⟨Ao42, co42, eo42⟩ := Kd.R_slice HO140.out; subst eo42) | (go_at_call 52; (with_reducible refine (codemasonref_Inside.calls kj9 a1 _ _ y138 true _ ?side1 ?side2 A33.out).mono ?_); (case side1 => repeat (first | exact (Kd.R_reads' HO140.out).2.2 | (with_reducible refine Kd.C_alloc ?_ _) | (with_reducible refine Kd.C_drewN ?_ _) | (with_reducible refine Kd.C_drew ?_))); (case side2 => exact (Kd.R_reads' HO140.out).2.1); rintro e w' ⟨rfl, ⟨nd, rfl⟩⟩))
                    go_ret
                    exact ⟨by first | rfl | (simp [errW_none, errW_some] <;> rfl) | (simp [*, errW_none, errW_some] <;> rfl), by repeat (first | (with_reducible first | exact HB.out | apply below_alloc | apply pw_below_drewN | apply below_drew1 | refine below_set ?_ GE124.out) | exact HB.out)⟩
                  · replace c34 := Bool.eq_false_iff.mpr c34
                    subst c34
                    have H1 : (some 2) = some r := by rw [if_neg (show ¬ (false = true) by decide)] at H; exact H
                    clear H
                    have H := H1
                    clear H1
                    obtain rfl := Option.some.inj H
                    have hcz43_0 : wc.cell? ⟨gb124, 0, none⟩ = some (.int .i64 a2_0) := (blk_cell BK124.out 0).trans rfl
                    have hcz43_1 : wc.cell? ⟨gb124, 1, none⟩ = some (.int .i64 a2_1) := (blk_cell BK124.out 1).trans rfl
                    have hcz43_2 : wc.cell? ⟨gb124, 2, none⟩ = some (.int .i64 a2_2) := (blk_cell BK124.out 2).trans rfl
                    have hcz43_3 : wc.cell? ⟨gb124, 3, none⟩ = some (.int .i64 a2_3) := (blk_cell BK124.out 3).trans rfl
                    have hcz43_4 : wc.cell? ⟨gb124, 4, none⟩ = some (.int .i64 a2_4) := (blk_cell BK124.out 4).trans rfl
                    have hfz43_0 := blk_frozen BK124.out 0
                    have hfz43_1 := blk_frozen BK124.out 1
                    have hfz43_2 := blk_frozen BK124.out 2
                    have hfz43_3 := blk_frozen BK124.out 3
                    have hfz43_4 := blk_frozen BK124.out 4
                    go_wp2_with (first | ((with_reducible refine gate_dst (N := 40) rfl ?_); (try (refine gate_guard (by rfl) ?_; dsimp only)); refine Kd.R_lit (Kd.int .i64) _ 3 ?hg (N := 40) ?hd (xs := ([a2_1] : List Int)) (inner := [.int .i64 a2_1]) (ok := fun _ => True) (okp := fun _ => True) ?hr ?hp (fun _ hk => hk) trivial (Below.refl _ _) (Nat.le_refl _) (by simp) ?_; (case hd => rfl); (case hg => rfl); (case hr => first | (go_simp; done) | (go_simp; rfl)); (case hp => exact (Reps.one (show Kd.M (Kd.int .i64) _ _ _ a2_1 [.int .i64 a2_1] from rfl) (Reps.none _ _))); intro v135 w44 ho45 hb hg_ hnew_; clear hg_ hnew_; (first | rw [← Ny134.out] at ho45 | (simp only [Int.reduceToNat] at ho45; rw [← Ny134.out] at ho45)); have n0_ := Aside0.mk (Kd.R_lower ho45 (below_size (by repeat (first | (with_reducible first | exact HB.out | apply below_alloc | apply pw_below_drewN | apply below_drew1 | refine below_set ?_ GE124.out) | exact HB.out)))); have n1_ := Aside0.mk (blk_below (g := gb124) (o := .cells #[.int .i64 a2_0, .int .i64 a2_1, .int .i64 a2_2, .int .i64 a2_3, .int .i64 a2_4] 111 (0, 0)) (by (with_reducible repeat (first | refine blk_drewN ?_ _ | refine blk_drew ?_ | refine blk_alloc ?_ _)); exact BK124.out) hb); have n2_ := Aside0.mk (below_step (by repeat (first | (with_reducible first | exact HB.out | apply below_alloc | apply pw_below_drewN | apply below_drew1 | refine below_set ?_ GE124.out) | exact HB.out)) hb); clear BK124; clear HB; have HO136 := n0_; have BK124 := n1_; have HB := n2_; clear n0_ n1_ n2_; clear hb ho45; obtain ⟨Ao46, co46, eo46⟩ := Kd.R_slice HO136.out; subst eo46) | ((with_reducible refine gate_callee (f := 52) rfl ?_); refine goesL_ (some 41) rfl rfl Try.func52 (by kernel_rfl) rfl #[.int .i64 a1, .slice Ao46 y134.length co46] rfl (by (try simp only [List.map_toArray, List.map_cons, List.map_nil]); first | done | rfl | (simp only [List.length_drop, List.length_take]; rfl)) ?_; (with_reducible refine (codemasonref_Inside.calls kj9 a1 _ _ y134 true _ ?side1 ?side2 A30.out).mono ?_); (case side1 => repeat (first | exact (Kd.R_reads' HO136.out).2.2 | (with_reducible refine Kd.C_alloc ?_ _) | (with_reducible refine Kd.C_drewN ?_ _) | (with_reducible refine Kd.C_drew ?_))); (case side2 => exact (Kd.R_reads' HO136.out).2.1); rintro e w' ⟨rfl, ⟨nd, rfl⟩⟩; refine ⟨_, rfl, ?_⟩; have hcz47_0 : w44.cell? ⟨gb124, 0, none⟩ = some (.int .i64 a2_0) := (blk_cell BK124.out 0).trans rfl; have hcz47_1 : w44.cell? ⟨gb124, 1, none⟩ = some (.int .i64 a2_1) := (blk_cell BK124.out 1).trans rfl; have hcz47_2 : w44.cell? ⟨gb124, 2, none⟩ = some (.int .i64 a2_2) := (blk_cell BK124.out 2).trans rfl; have hcz47_3 : w44.cell? ⟨gb124, 3, none⟩ = some (.int .i64 a2_3) := (blk_cell BK124.out 3).trans rfl; have hcz47_4 : w44.cell? ⟨gb124, 4, none⟩ = some (.int .i64 a2_4) := (blk_cell BK124.out 4).trans rfl; have hfz47_0 := blk_frozen BK124.out 0; have hfz47_1 := blk_frozen BK124.out 1; have hfz47_2 := blk_frozen BK124.out 2; have hfz47_3 := blk_frozen BK124.out 3; have hfz47_4 := blk_frozen BK124.out 4) | ((with_reducible refine gate_dst (N := 53) rfl ?_); (try (refine gate_guard (by rfl) ?_; dsimp only)); refine Kd.R_lit (Kd.int .i64) _ 3 ?hg (N := 53) ?hd (xs := ([a2_2, a2_3] : List Int)) (inner := [.int .i64 a2_2, .int .i64 a2_3]) (ok := fun _ => True) (okp := fun _ => True) ?hr ?hp (fun _ hk => hk) trivial (Below.refl _ _) (Nat.le_refl _) (by simp) ?_; (case hd => rfl); (case hg => rfl); (case hr => first | (go_simp; done) | (go_simp; rfl)); (case hp => exact (Reps.one (show Kd.M (Kd.int .i64) _ _ _ a2_2 [.int .i64 a2_2] from rfl) (Reps.one (show Kd.M (Kd.int .i64) _ _ _ a2_3 [.int .i64 a2_3] from rfl) (Reps.none _ _)))); intro v139 w48 ho49 hb hg_ hnew_; clear hg_ hnew_; (first | rw [← Ny138.out] at ho49 | (simp only [Int.reduceToNat] at ho49; rw [← Ny138.out] at ho49)); have n0_ := Aside0.mk (Kd.R_elder' (by (with_reducible repeat (first | apply Kd.R_alloc | apply Kd.R_drewN | apply Kd.R_drew)); exact HO136.out) (Kd.R_base ho49) hb); have n1_ := Aside0.mk (Kd.R_lower (Kd.R_new' ho49 (Kd.R_lt (by (with_reducible repeat (first | apply Kd.R_alloc | apply Kd.R_drewN | apply Kd.R_drew)); exact HO136.out))) (below_size (by repeat (first | (with_reducible first | exact HB.out | apply below_alloc | apply pw_below_drewN | apply below_drew1 | refine below_set ?_ GE124.out) | exact HB.out)))); have n2_ := Aside0.mk (blk_below (g := gb124) (o := .cells #[.int .i64 a2_0, .int .i64 a2_1, .int .i64 a2_2, .int .i64 a2_3, .int .i64 a2_4] 111 (0, 0)) (by (with_reducible repeat (first | refine blk_drewN ?_ _ | refine blk_drew ?_ | refine blk_alloc ?_ _)); exact BK124.out) hb); have n3_ := Aside0.mk (below_step (by repeat (first | (with_reducible first | exact HB.out | apply below_alloc | apply pw_below_drewN | apply below_drew1 | refine below_set ?_ GE124.out) | exact HB.out)) hb); clear HO136; clear BK124; clear HB; have HO136 := n0_; have HO140 := n1_; have BK124 := n2_; have HB := n3_; clear n0_ n1_ n2_ n3_; clear hb ho49; obtain ⟨Ao50, co50, eo50⟩ := Kd.R_slice HO140.out; subst eo50) | (go_at_call 52; (with_reducible refine (codemasonref_Inside.calls kj9 a1 _ _ y138 false _ ?side1 ?side2 A33.out).mono ?_); (case side1 => repeat (first | exact (Kd.R_reads' HO140.out).2.2 | (with_reducible refine Kd.C_alloc ?_ _) | (with_reducible refine Kd.C_drewN ?_ _) | (with_reducible refine Kd.C_drew ?_))); (case side2 => exact (Kd.R_reads' HO140.out).2.1); rintro e w' ⟨rfl, ⟨nd, rfl⟩⟩))
                    go_ret
                    exact ⟨by first | rfl | (simp [errW_none, errW_some] <;> rfl) | (simp [*, errW_none, errW_some] <;> rfl), by repeat (first | (with_reducible first | exact HB.out | apply below_alloc | apply pw_below_drewN | apply below_drew1 | refine below_set ?_ GE124.out) | exact HB.out)⟩
                · rw [if_neg c32] at H
                  have c32b0 : decide (3 ≤ a2_0) = false := decide_eq_false c32
                  clear c32
                  obtain rfl := Option.some.inj H
                  have hcz51_0 : wc.cell? ⟨gb124, 0, none⟩ = some (.int .i64 a2_0) := (blk_cell BK124.out 0).trans rfl
                  have hcz51_1 : wc.cell? ⟨gb124, 1, none⟩ = some (.int .i64 a2_1) := (blk_cell BK124.out 1).trans rfl
                  have hcz51_2 : wc.cell? ⟨gb124, 2, none⟩ = some (.int .i64 a2_2) := (blk_cell BK124.out 2).trans rfl
                  have hcz51_3 : wc.cell? ⟨gb124, 3, none⟩ = some (.int .i64 a2_3) := (blk_cell BK124.out 3).trans rfl
                  have hcz51_4 : wc.cell? ⟨gb124, 4, none⟩ = some (.int .i64 a2_4) := (blk_cell BK124.out 4).trans rfl
                  have hfz51_0 := blk_frozen BK124.out 0
                  have hfz51_1 := blk_frozen BK124.out 1
                  have hfz51_2 := blk_frozen BK124.out 2
                  have hfz51_3 := blk_frozen BK124.out 3
                  have hfz51_4 := blk_frozen BK124.out 4
                  go_wp2_with (first | ((with_reducible refine gate_dst (N := 40) rfl ?_); (try (refine gate_guard (by rfl) ?_; dsimp only)); refine Kd.R_lit (Kd.int .i64) _ 3 ?hg (N := 40) ?hd (xs := ([a2_1] : List Int)) (inner := [.int .i64 a2_1]) (ok := fun _ => True) (okp := fun _ => True) ?hr ?hp (fun _ hk => hk) trivial (Below.refl _ _) (Nat.le_refl _) (by simp) ?_; (case hd => rfl); (case hg => rfl); (case hr => first | (go_simp; done) | (go_simp; rfl)); (case hp => exact (Reps.one (show Kd.M (Kd.int .i64) _ _ _ a2_1 [.int .i64 a2_1] from rfl) (Reps.none _ _))); intro v135 w52 ho53 hb hg_ hnew_; clear hg_ hnew_; (first | rw [← Ny134.out] at ho53 | (simp only [Int.reduceToNat] at ho53; rw [← Ny134.out] at ho53)); have n0_ := Aside0.mk (Kd.R_lower ho53 (below_size (by repeat (first | (with_reducible first | exact HB.out | apply below_alloc | apply pw_below_drewN | apply below_drew1 | refine below_set ?_ GE124.out) | exact HB.out)))); have n1_ := Aside0.mk (blk_below (g := gb124) (o := .cells #[.int .i64 a2_0, .int .i64 a2_1, .int .i64 a2_2, .int .i64 a2_3, .int .i64 a2_4] 111 (0, 0)) (by (with_reducible repeat (first | refine blk_drewN ?_ _ | refine blk_drew ?_ | refine blk_alloc ?_ _)); exact BK124.out) hb); have n2_ := Aside0.mk (below_step (by repeat (first | (with_reducible first | exact HB.out | apply below_alloc | apply pw_below_drewN | apply below_drew1 | refine below_set ?_ GE124.out) | exact HB.out)) hb); clear BK124; clear HB; have HO136 := n0_; have BK124 := n1_; have HB := n2_; clear n0_ n1_ n2_; clear hb ho53; obtain ⟨Ao54, co54, eo54⟩ := Kd.R_slice HO136.out; subst eo54) | ((with_reducible refine gate_callee (f := 52) rfl ?_); refine goesL_ (some 41) rfl rfl Try.func52 (by kernel_rfl) rfl #[.int .i64 a1, .slice Ao54 y134.length co54] rfl (by (try simp only [List.map_toArray, List.map_cons, List.map_nil]); first | done | rfl | (simp only [List.length_drop, List.length_take]; rfl)) ?_; (with_reducible refine (codemasonref_Inside.calls kj9 a1 _ _ y134 true _ ?side1 ?side2 A30.out).mono ?_); (case side1 => repeat (first | exact (Kd.R_reads' HO136.out).2.2 | (with_reducible refine Kd.C_alloc ?_ _) | (with_reducible refine Kd.C_drewN ?_ _) | (with_reducible refine Kd.C_drew ?_))); (case side2 => exact (Kd.R_reads' HO136.out).2.1); rintro e w' ⟨rfl, ⟨nd, rfl⟩⟩; refine ⟨_, rfl, ?_⟩; have hcz55_0 : w52.cell? ⟨gb124, 0, none⟩ = some (.int .i64 a2_0) := (blk_cell BK124.out 0).trans rfl; have hcz55_1 : w52.cell? ⟨gb124, 1, none⟩ = some (.int .i64 a2_1) := (blk_cell BK124.out 1).trans rfl; have hcz55_2 : w52.cell? ⟨gb124, 2, none⟩ = some (.int .i64 a2_2) := (blk_cell BK124.out 2).trans rfl; have hcz55_3 : w52.cell? ⟨gb124, 3, none⟩ = some (.int .i64 a2_3) := (blk_cell BK124.out 3).trans rfl; have hcz55_4 : w52.cell? ⟨gb124, 4, none⟩ = some (.int .i64 a2_4) := (blk_cell BK124.out 4).trans rfl; have hfz55_0 := blk_frozen BK124.out 0; have hfz55_1 := blk_frozen BK124.out 1; have hfz55_2 := blk_frozen BK124.out 2; have hfz55_3 := blk_frozen BK124.out 3; have hfz55_4 := blk_frozen BK124.out 4))
                  go_ret
                  exact ⟨by first | rfl | (simp [errW_none, errW_some] <;> rfl) | (simp [*, errW_none, errW_some] <;> rfl), by repeat (first | (with_reducible first | exact HB.out | apply below_alloc | apply pw_below_drewN | apply below_drew1 | refine below_set ?_ GE124.out) | exact HB.out)⟩
              · replace c31 := Bool.eq_false_iff.mpr c31
                subst c31
                have H1 : (some 2) = some r := by rw [if_neg (show ¬ (false = true) by decide)] at H; exact H
                clear H
                have H := H1
                clear H1
                obtain rfl := Option.some.inj H
                have hcz56_0 : wc.cell? ⟨gb124, 0, none⟩ = some (.int .i64 a2_0) := (blk_cell BK124.out 0).trans rfl
                have hcz56_1 : wc.cell? ⟨gb124, 1, none⟩ = some (.int .i64 a2_1) := (blk_cell BK124.out 1).trans rfl
                have hcz56_2 : wc.cell? ⟨gb124, 2, none⟩ = some (.int .i64 a2_2) := (blk_cell BK124.out 2).trans rfl
                have hcz56_3 : wc.cell? ⟨gb124, 3, none⟩ = some (.int .i64 a2_3) := (blk_cell BK124.out 3).trans rfl
                have hcz56_4 : wc.cell? ⟨gb124, 4, none⟩ = some (.int .i64 a2_4) := (blk_cell BK124.out 4).trans rfl
                have hfz56_0 := blk_frozen BK124.out 0
                have hfz56_1 := blk_frozen BK124.out 1
                have hfz56_2 := blk_frozen BK124.out 2
                have hfz56_3 := blk_frozen BK124.out 3
                have hfz56_4 := blk_frozen BK124.out 4
                go_wp2_with (first | ((with_reducible refine gate_dst (N := 40) rfl ?_); (try (refine gate_guard (by rfl) ?_; dsimp only)); refine Kd.R_lit (Kd.int .i64) _ 3 ?hg (N := 40) ?hd (xs := ([a2_1] : List Int)) (inner := [.int .i64 a2_1]) (ok := fun _ => True) (okp := fun _ => True) ?hr ?hp (fun _ hk => hk) trivial (Below.refl _ _) (Nat.le_refl _) (by simp) ?_; (case hd => rfl); (case hg => rfl); (case hr => first | (go_simp; done) | (go_simp; rfl)); (case hp => exact (Reps.one (show Kd.M (Kd.int .i64) _ _ _ a2_1 [.int .i64 a2_1] from rfl) (Reps.none _ _))); intro v135 w57 ho58 hb hg_ hnew_; clear hg_ hnew_; (first | rw [← Ny134.out] at ho58 | (simp only [Int.reduceToNat] at ho58; rw [← Ny134.out] at ho58)); have n0_ := Aside0.mk (Kd.R_lower ho58 (below_size (by repeat (first | (with_reducible first | exact HB.out | apply below_alloc | apply pw_below_drewN | apply below_drew1 | refine below_set ?_ GE124.out) | exact HB.out)))); have n1_ := Aside0.mk (blk_below (g := gb124) (o := .cells #[.int .i64 a2_0, .int .i64 a2_1, .int .i64 a2_2, .int .i64 a2_3, .int .i64 a2_4] 111 (0, 0)) (by (with_reducible repeat (first | refine blk_drewN ?_ _ | refine blk_drew ?_ | refine blk_alloc ?_ _)); exact BK124.out) hb); have n2_ := Aside0.mk (below_step (by repeat (first | (with_reducible first | exact HB.out | apply below_alloc | apply pw_below_drewN | apply below_drew1 | refine below_set ?_ GE124.out) | exact HB.out)) hb); clear BK124; clear HB; have HO136 := n0_; have BK124 := n1_; have HB := n2_; clear n0_ n1_ n2_; clear hb ho58; obtain ⟨Ao59, co59, eo59⟩ := Kd.R_slice HO136.out; subst eo59) | ((with_reducible refine gate_callee (f := 52) rfl ?_); refine goesL_ (some 41) rfl rfl Try.func52 (by kernel_rfl) rfl #[.int .i64 a1, .slice Ao59 y134.length co59] rfl (by (try simp only [List.map_toArray, List.map_cons, List.map_nil]); first | done | rfl | (simp only [List.length_drop, List.length_take]; rfl)) ?_; (with_reducible refine (codemasonref_Inside.calls kj9 a1 _ _ y134 false _ ?side1 ?side2 A30.out).mono ?_); (case side1 => repeat (first | exact (Kd.R_reads' HO136.out).2.2 | (with_reducible refine Kd.C_alloc ?_ _) | (with_reducible refine Kd.C_drewN ?_ _) | (with_reducible refine Kd.C_drew ?_))); (case side2 => exact (Kd.R_reads' HO136.out).2.1); rintro e w' ⟨rfl, ⟨nd, rfl⟩⟩; refine ⟨_, rfl, ?_⟩))
                go_ret
                exact ⟨by first | rfl | (simp [errW_none, errW_some] <;> rfl) | (simp [*, errW_none, errW_some] <;> rfl), by repeat (first | (with_reducible first | exact HB.out | apply below_alloc | apply pw_below_drewN | apply below_drew1 | refine below_set ?_ GE124.out) | exact HB.out)⟩
end Go.Proofs.Ytaicamjpcnhjcaa.PA
namespace Go.Proofs.Ytaicamjpcnhjcaa.PA
open Go.RowKit Go.Proofs.YtaicamjpcnhjcaaW.PrintWords Go.Proofs.YtaicamjpcnhjcaaW.PrintLast
set_option linter.unusedVariables false
set_option linter.unusedSimpArgs false
theorem insB_eq (v i : Int) : insB v i = decide (0 ≤ i ∧ i < v) := by simp [insB]
theorem stepCheck_ev (v op c a b x : Int) : Ev (fun k => codemasonref_StepCheck.f k v v op c a b x) (stepE v op c a b x) := by
  unfold codemasonref_StepCheck.f
  have h1 : ∀ q : Bool, Ev (fun k => codemasonref_StepCheck.j1 k v q op c a b x) (if q = true then 4 else if insB v c = false ∨ op > 2 ∧ (insB v a = false ∨ insB v b = false) then 2 else 0) := fun q => by
    refine ev_succ ?_
    simp only [codemasonref_StepCheck.j1]
    refine ev_ite (fun h => ev_some (by rw [if_pos h])) (fun h => Ev.bind (inside1_ev _ _) (ev_ite (fun h2 => ev_ite (fun h3 => Ev.bind (inside2_ev _ _ _) (ev_ite (fun h4 => ev_some ?_) (fun h4 => ev_some ?_))) (fun h3 => ev_some ?_)) (fun h2 => ev_some ?_)))
    all_goals (simp only [insB_eq]; grind)
  have h0 : ∀ q : Bool, Ev (fun k => codemasonref_StepCheck.j0 k v v q op c a b x) (if q = true then 6 else if op = 1 ∧ (x < 0 ∨ x > 255) ∨ op = 2 ∧ insB v x = false then 4 else if insB v c = false ∨ op > 2 ∧ (insB v a = false ∨ insB v b = false) then 2 else 0) := fun q => by
    refine ev_succ ?_
    simp only [codemasonref_StepCheck.j0, value_eq, Option.bind_some]
    refine ev_ite (fun h => ev_some (by rw [if_pos h])) (fun h => ev_ite (fun h2 => ev_ite (fun h3 => ev_ite (fun h4 => absurd h4 (by omega)) (fun h4 => ev_eq (h1 _) ?_)) (fun h3 => ev_eq (h1 _) ?_)) (fun h2 => ev_ite (fun h3 => Ev.bind (inside1_ev _ _) (ev_eq (h1 _) ?_)) (fun h3 => ev_eq (h1 _) ?_)))
    all_goals (simp only [insB_eq]; grind)
  refine ev_ite (fun h => ev_eq (h0 _) ?_) (fun h => ev_eq (h0 _) ?_)
  all_goals (simp only [stepE]; grind)
def haveErr (v : Int) (l : List Int) : Int := if (l.length : Int) ≠ v then 3 else if (l.all fun x => decide (0 ≤ x ∧ x ≤ 255)) = true then 0 else 4
theorem haveCheck_ev (v : Int) (l : List Int) (hl : l.length ≤ 9223372036854775807) : Ev (fun k => codemasonref_HaveCheck.f k v l) (haveErr v l) := by
  have key := down_ind (n := l.length) (P := fun i => Ev (fun k => codemasonref_HaveCheck.l0 k l l.length i) (if ((l.drop i).all fun x => decide (0 ≤ x ∧ x ≤ 255)) = true then 0 else 4)) ?_ ?_ 0 (by omega)
  · unfold codemasonref_HaveCheck.f haveErr
    exact ev_ite (fun h => ev_eq key (by rw [if_neg (c := ((l.length : Int) ≠ v)) (by omega), List.drop_zero])) (fun h => ev_some (by rw [if_pos h]))
  · refine ev_succ ?_
    simp only [codemasonref_HaveCheck.l0, List.drop_length]
    exact ev_neg (by omega) (Ev.now _)
  · intro i hi ih
    refine ev_succ ?_
    simp only [codemasonref_HaveCheck.l0, wrap_nat hi hl, drop_at 0 hi, List.all_cons, ← rd_nat, value_eq, Option.bind_some]
    generalize rd l i = x
    refine ev_pos (by omega) (ev_pos (by omega) (ev_pos (by omega) (ev_ite (fun h => ev_eq ih ?_) (fun h => ev_some ?_))))
    · rw [h, Bool.true_and]
    · rw [Bool.not_eq_true] at h; rw [h]; rfl
end Go.Proofs.Ytaicamjpcnhjcaa.PA
namespace Go.Proofs.Ytaicamjpcnhjcaa.PA
open Go.RowKit Go.Proofs.YtaicamjpcnhjcaaW.PrintWords Go.Proofs.YtaicamjpcnhjcaaW.PrintLast Go.Proofs.YtaicamjpcnhjcaaW.PrintMore
set_option linter.unusedVariables false
set_option linter.unusedSimpArgs false
def kindOwn (v : Int) (x : S127) : Int :=
  if x.f0 ≠ 1 ∧ x.f0 ≠ 2 ∧ x.f0 ≠ 3 then 6 else if x.f0 = 1 then stepsErr v x.f2 else if 0 ≤ x.f1 ∧ x.f1 < v then 0 else 2
def codemasonref_shapeKinds.f : Nat → Int → List S127 → Option Int
  | 0, _, _ => none
  | k + 1, v, l => shapesLoop (kindOwn v) (fun p => codemasonref_shapeKinds.f k v p) l
theorem codemasonref_shapeKinds.mono : ∀ a0 a1 k, LeO (codemasonref_shapeKinds.f k a0 a1) (codemasonref_shapeKinds.f (k + 1) a0 a1) := fun a0 a1 k => by
  induction k generalizing a0 a1 with
  | zero => intro r h; cases h
  | succ k ih =>
    rw [codemasonref_shapeKinds.f, codemasonref_shapeKinds.f]
    exact shapesLoop_mono (fun p => ih _ p) _
set_option maxRecDepth 100000 in
set_option maxHeartbeats 4000000 in
theorem codemasonref_shapeKinds.calls : ∀ (k : Nat) (a0 : Int) (A1 : Option Addr) (c1 : Nat) (l1 : List S127) (r : Int) (w : World) (hr1 : Kd.C k127 w A1 l1.length l1) (hc1 : l1.length ≤ c1) (h : codemasonref_shapeKinds.f k a0 l1 = some r),
    Calls Try.prog 81 #[.int .i64 a0, .slice A1 l1.length c1] w fun e w' => e = .returned (.int .i64 r) ∧ Below w.heap.size w w' := by
  intro k
  induction k with
  | zero => intro _ _ _ _ _ _ _ _ h; simp [codemasonref_shapeKinds.f] at h
  | succ k ih =>
    intro a0 A1 c1 l1 r w hr1 hc1 h
    have IH := Aside0.mk ih
    clear ih
    have hl := hr1.2.1
    have HR := Aside0.mk hr1
    clear hr1
    rw [codemasonref_shapeKinds.f] at h
    have HA := Aside0.mk h
    generalize hgo : (fun p => codemasonref_shapeKinds.f k a0 p) = go at HA
    have Hgo := Aside0.mk hgo
    clear h hgo
    go_enter Try.func81, Try.ntmps81
    go_wp2_with fail
    go_loopw [15] (fun i wr => ∃ j : Nat, j ≤ l1.length ∧ i = .int .i64 j ∧ Aside0 (shapesLoop (kindOwn a0) go (l1.drop j) = some r) ∧ Aside0 (Below w.heap.size w wr)) (fun i _ => l1.length - (intOf i).toNat)
    case atStart => exact ⟨0, by omega, rfl, HA, ⟨Below.refl _ _⟩⟩
    case round =>
      obtain ⟨j, hj, rfl, HL, HB⟩ := hrel
      by_cases hjt : j < l1.length
      · obtain ⟨ad, A2, c2, A3, c3, A4, c4, e0, h0, h1, h2, h3, h4, lc2, hC2, lc3, hC3, lc4, hC4⟩ := T127_at (Kd.C_below HR.out HB.out) j hjt
        cases e0
        have hL := HL.out
        rw [shapesLoop_at _ _ hjt] at hL
        generalize l1.getD j z127 = x at h0 h1 h2 h3 h4 lc2 hC2 lc3 hC3 lc4 hC4 hL
        have L2 := hC2.2.1
        have L3 := hC3.2.1
        have L4 := hC4.2.1
        have H2 := Aside0.mk hC2
        have H3 := Aside0.mk hC3
        have H4 := Aside0.mk hC4
        have Hc2 := Aside0.mk lc2
        have Hc3 := Aside0.mk lc3
        have Hc4 := Aside0.mk lc4
        clear hC2 hC3 hC4 lc2 lc3 lc4
        obtain ⟨wo, ho⟩ : ∃ wo : World, wo = wr := ⟨_, rfl⟩
        subst ho
        by_cases hk : x.f0 = 1
        · have hkb : (x.f0 == 1) = true := by simp [hk]
          have hkc : (x.f0 != 1) = false := by simp [hk]
          have how : kindOwn a0 x = stepsErr a0 x.f2 := by unfold kindOwn; rw [if_neg (by omega), if_pos hk]
          rw [how] at hL
          have HLL := Aside0.mk hL
          clear hk how hL HL
          go_wp2_with fail
          go_loopw [38] (fun i w' => ∃ s : Nat, s ≤ x.f2.length ∧ i = .int .i64 s ∧ Aside0 (stepsErr a0 (x.f2.drop s) = stepsErr a0 x.f2) ∧ Aside0 (Below (wo.heap.size + 1) (wo.alloc (.cells #[.int .i64 x.f0, .int .i64 x.f1, .slice A2 x.f2.length c2, .slice A3 x.f3.length c3, .slice A4 x.f4.length c4] 127)) w')) (fun i _ => x.f2.length - (intOf i).toNat)
          case atStart => exact ⟨0, by omega, rfl, ⟨rfl⟩, ⟨Below.refl _ _⟩⟩
          case round =>
            clear h0 h1 h2 h3 h4
            obtain ⟨s, hs, rfl, HS0, Hb2⟩ := hrel
            have Hbo := Aside0.mk (below_box Hb2.out)
            by_cases hst : s < x.f2.length
            · obtain ⟨ad2, e2, g0, g1, g2, g3, g4⟩ := T111_at (Kd.C_below H2.out Hbo.out) s hst
              cases e2
              have hS := HS0.out
              rw [stepsErr_at _ hst] at hS
              generalize x.f2.getD s z111 = st at g0 g1 g2 g3 g4 hS
              obtain ⟨kk, hkk⟩ := (stepCheck_ev a0 st.f0 st.f1 st.f2 st.f3 st.f4).rounds
              have HK := Aside0.mk hkk
              clear hkk
              by_cases he : stepE a0 st.f0 st.f1 st.f2 st.f3 st.f4 = 0
              · rw [if_neg (by simpa using he)] at hS
                have heb : (stepE a0 st.f0 st.f1 st.f2 st.f3 st.f4 != 0) = false := by simp [he]
                have HS1 := Aside0.mk hS
                clear hS he HS0
                go_wp2_with (go_at_call 71; refine (codemasonref_StepCheck.calls kk _ _ _ _ _ _ _ _ _ HK.out).mono ?_; rintro e w2 ⟨rfl, hb2⟩)
                go_roundw
                case rel => exact ⟨s + 1, by omega, by go_num, HS1, ⟨below_alloc_then Hb2.out (box_size Hb2.out) hb2 (by have := box_size Hb2.out; simp; omega)⟩⟩
                case measure => simp [intOf]; omega
              · rw [if_pos he] at hS
                have hr : stepE a0 st.f0 st.f1 st.f2 st.f3 st.f4 = r := by
                  have h := HLL.out
                  rw [← hS, if_neg he] at h
                  exact Option.some.inj h
                have heb : (stepE a0 st.f0 st.f1 st.f2 st.f3 st.f4 != 0) = true := by simp [he]
                have HR2 := Aside0.mk hr
                clear hS he hr HS0
                go_wp2_with (go_at_call 71; refine (codemasonref_StepCheck.calls kk _ _ _ _ _ _ _ _ _ HK.out).mono ?_; rintro e w2 ⟨rfl, hb2⟩)
                go_ret
                exact ⟨ret_int HR2.out, HB.out.trans (below_alloc_then Hbo.out Hbo.out.size hb2 (by have := box_size Hb2.out; simp; omega) |>.mono HB.out.size)⟩
            · have hS := HS0.out
              rw [List.drop_of_length_le (by omega)] at hS
              have HL : Aside0 (((shapesParts go [x.f3, x.f4]).bind fun e => if e = 0 then shapesLoop (kindOwn a0) go (l1.drop (j + 1)) else some e) = some r) := ⟨by have h := HLL.out; rw [if_pos (show stepsErr a0 x.f2 = 0 from hS.symm)] at h; exact h⟩
              have h0 := box_cells Hb2.out 0 rfl
              have h1 := box_cells Hb2.out 1 rfl
              have h2 := box_cells Hb2.out 2 rfl
              have h3 := box_cells Hb2.out 3 rfl
              have h4 := box_cells Hb2.out 4 rfl
              obtain ⟨w2, ho2⟩ : ∃ w2 : World, w2 = wr := ⟨_, rfl⟩
              subst ho2
              have HW : Aside0 (Below w.heap.size w w2) := ⟨HB.out.trans (Hbo.out.mono HB.out.size)⟩
              have HW3 : Aside0 (k127.C w2 A3 x.f3.length x.f3) := ⟨Kd.C_below H3.out Hbo.out⟩
              have HW4 : Aside0 (k127.C w2 A4 x.f4.length x.f4) := ⟨Kd.C_below H4.out Hbo.out⟩
              clear hS HLL HS0
              go_wp2_with fail
              go_loopw [62] (fun i w' => ∃ t : Nat, t ≤ 2 ∧ i = .int .i64 t ∧ Aside0 ((shapesParts go ([x.f3, x.f4].drop t)).bind (fun e => if e = 0 then shapesLoop (kindOwn a0) go (l1.drop (j + 1)) else some e) = some r) ∧ Aside0 (Below (w2.heap.size + 1) ((w2).alloc (.cells #[.slice A3 x.f3.length c3, .slice A4 x.f4.length c4] 22)) w')) (fun i _ => 2 - (intOf i).toNat)
              case atStart => exact ⟨0, by omega, rfl, HL, ⟨Below.refl _ _⟩⟩
              case round =>
                clear HL h0 h1 h2 h3 h4
                obtain ⟨t, ht, rfl, HS, HB2⟩ := hrel
                have hB := HB2.out
                have hB3 : Below w.heap.size w wr := (HW.out.alloc HW.out.size _).trans (hB.mono (by have := HW.out.size; (try simp at this); omega))
                have hB4 : Below (w2).heap.size (w2) wr := ((Below.refl _ _).alloc (Nat.le_refl _) _).trans (hB.mono (by simp))
                have HB3 := Aside0.mk hB3
                by_cases ht2 : t < 2
                · have hrow : Kd.C (Kd.slice 127 k127) wr (some ⟨w2.heap.size, 0, none⟩) 2 [x.f3, x.f4] :=
                    two_rows ((hB.cell (p := ⟨w2.heap.size, 0, none⟩) (by simp)).trans (by simp [go_sem])) ((hB.cell (p := ⟨w2.heap.size, 1, none⟩) (by simp)).trans (by simp [go_sem])) Hc3.out Hc4.out (Kd.C_below HW3.out hB4) (Kd.C_below HW4.out hB4)
                  obtain ⟨ad2, Ap, cp, e2, g0, lp, hCp⟩ := L7_at hrow t ht2
                  simp only [Option.some.injEq] at e2
                  subst e2
                  rw [add_plain] at g0
                  have hS := HS.out
                  rw [shapesParts_at _ (by simpa using ht2), Option.bind_assoc] at hS
                  generalize [x.f3, x.f4].getD t [] = p at g0 lp hCp hS
                  obtain ⟨e, hp, hrest⟩ := Option.bind_eq_some_iff.1 hS
                  rw [← Hgo.out] at hp
                  have HP := Aside0.mk hp
                  have hlp := hCp.2.1
                  have HCp := Aside0.mk hCp
                  have Hlp := Aside0.mk lp
                  have hbb : w2.heap.size + 1 ≤ wr.heap.size := by have := hB.size; simp at this; omega
                  by_cases he : e = 0
                  · subst he
                    simp only [if_true] at hrest
                    have HQ := Aside0.mk hrest
                    clear hS HS hrow hrest hCp lp hB hp hB3 hB4
                    go_wp2_with (go_at_call 81; refine (IH.out _ _ _ _ _ _ HCp.out Hlp.out HP.out).mono ?_; rintro e w3 ⟨rfl, hb3⟩)
                    go_roundw
                    case rel => exact ⟨t + 1, by omega, by go_num, HQ, ⟨HB2.out.trans (hb3.mono hbb)⟩⟩
                    case measure => simp [intOf]; omega
                  · simp only [if_neg he, Option.bind_some, Option.some.injEq] at hrest
                    subst hrest
                    have heb : (e != 0) = true := by simp [he]
                    clear hS HS hrow hCp lp hB hp he hB3 hB4
                    go_wp2_with (go_at_call 81; refine (IH.out _ _ _ _ _ _ HCp.out Hlp.out HP.out).mono ?_; rintro e w3 ⟨rfl, hb3⟩)
                    go_ret
                    exact ⟨rfl, HB3.out.trans (hb3.mono HB3.out.size)⟩
                · have hS := HS.out
                  rw [List.drop_of_length_le (by simp; omega)] at hS
                  simp only [shapesParts, Option.bind_some, if_true] at hS
                  have HS' := Aside0.mk hS
                  clear hS hB hB3 hB4
                  go_wp2
                  go_roundw
                  case rel => exact ⟨j + 1, by omega, by go_num, HS', HB3⟩
                  case measure => simp [intOf]; omega
        · have hkb : (x.f0 == 1) = false := by simp [hk]
          have hkc : (x.f0 != 1) = true := by simp [hk]
          by_cases hk2 : x.f0 = 2 ∨ x.f0 = 3
          · have how : kindOwn a0 x = if 0 ≤ x.f1 ∧ x.f1 < a0 then 0 else 2 := by unfold kindOwn; rw [if_neg (by omega), if_neg hk]
            rw [how] at hL
            obtain ⟨kk, hkk⟩ := (inside1_ev a0 x.f1).rounds
            have HK := Aside0.mk hkk
            have hb2b : (x.f0 != 2) = true ∧ (x.f0 != 3) = false ∨ (x.f0 != 2) = false := by
              rcases hk2 with h | h
              · exact .inr (by simp [h])
              · exact .inl ⟨by simp [h], by simp [h]⟩
            have hbl : Below wo.heap.size wo ((wo.alloc (.cells #[.int .i64 x.f0, .int .i64 x.f1, .slice A2 x.f2.length c2, .slice A3 x.f3.length c3, .slice A4 x.f4.length c4] 127)).alloc (.cells #[.int .i64 x.f1] 3)) := ((Below.refl _ _).alloc (Nat.le_refl _) _).alloc (by simp) _
            have H3I : Aside0 (Kd.C (Kd.int .i64) ((wo.alloc (.cells #[.int .i64 x.f0, .int .i64 x.f1, .slice A2 x.f2.length c2, .slice A3 x.f3.length c3, .slice A4 x.f4.length c4] 127)).alloc (.cells #[.int .i64 x.f1] 3)) (some ⟨wo.heap.size + 1, 0, none⟩) 1 [x.f1]) := ⟨one_int (by simp [go_sem])⟩
            have Hbl := Aside0.mk hbl
            by_cases hi : 0 ≤ x.f1 ∧ x.f1 < a0
            · rw [if_pos hi, if_pos rfl] at hL
              rw [decide_eq_true hi] at HK
              replace HL := Aside0.mk hL
              clear hk hk2 how hL hkk hbl hi
              have go1 : Calls Try.prog 52 #[.int .i64 a0, .slice (some ⟨wo.heap.size + 1, 0, none⟩) 1 1] ((wo.alloc (.cells #[.int .i64 x.f0, .int .i64 x.f1, .slice A2 x.f2.length c2, .slice A3 x.f3.length c3, .slice A4 x.f4.length c4] 127)).alloc (.cells #[.int .i64 x.f1] 3)) (fun e w2 => e = .returned (.bool true) ∧ Below (wo.heap.size + 2) ((wo.alloc (.cells #[.int .i64 x.f0, .int .i64 x.f1, .slice A2 x.f2.length c2, .slice A3 x.f3.length c3, .slice A4 x.f4.length c4] 127)).alloc (.cells #[.int .i64 x.f1] 3)) w2) :=
                (codemasonref_Inside.calls kk a0 _ 1 [x.f1] true _ H3I.out (Nat.le_refl _) HK.out).mono (fun e w2 ⟨h1, h2⟩ => ⟨h1, h2.below.mono (by simp)⟩)
              have Go1 := Aside0.mk go1
              clear go1
              rcases hb2b with ⟨p2, p3⟩ | p2
              all_goals
                go_wp2_with fail
                refine Go1.out.mono ?_
                rintro e w2 ⟨rfl, hb2⟩
                have hb3 : Below (wo.heap.size + 1) (wo.alloc (.cells #[.int .i64 x.f0, .int .i64 x.f1, .slice A2 x.f2.length c2, .slice A3 x.f3.length c3, .slice A4 x.f4.length c4] 127)) w2 := ((Below.refl _ _).alloc (by simp) _).trans (hb2.mono (by omega))
                have g3 := box_cells hb3 3 rfl
                have g4 := box_cells hb3 4 rfl
                have hb4 := below_box hb3
                have HW : Aside0 (Below w.heap.size w w2) := ⟨HB.out.trans (hb4.mono HB.out.size)⟩
                have HW3 : Aside0 (k127.C w2 A3 x.f3.length x.f3) := ⟨Kd.C_below H3.out hb4⟩
                have HW4 : Aside0 (k127.C w2 A4 x.f4.length x.f4) := ⟨Kd.C_below H4.out hb4⟩
                clear hb2 hb3 hb4
                go_wp2_with fail
                go_loopw [62] (fun i w' => ∃ t : Nat, t ≤ 2 ∧ i = .int .i64 t ∧ Aside0 ((shapesParts go ([x.f3, x.f4].drop t)).bind (fun e => if e = 0 then shapesLoop (kindOwn a0) go (l1.drop (j + 1)) else some e) = some r) ∧ Aside0 (Below (w2.heap.size + 1) ((w2).alloc (.cells #[.slice A3 x.f3.length c3, .slice A4 x.f4.length c4] 22)) w')) (fun i _ => 2 - (intOf i).toNat)
                case atStart => exact ⟨0, by omega, rfl, HL, ⟨Below.refl _ _⟩⟩
                case round =>
                  clear HL h0 h1 h2 h3 h4
                  obtain ⟨t, ht, rfl, HS, HB2⟩ := hrel
                  have hB := HB2.out
                  have hB3 : Below w.heap.size w wr := (HW.out.alloc HW.out.size _).trans (hB.mono (by have := HW.out.size; (try simp at this); omega))
                  have hB4 : Below (w2).heap.size (w2) wr := ((Below.refl _ _).alloc (Nat.le_refl _) _).trans (hB.mono (by simp))
                  have HB3 := Aside0.mk hB3
                  by_cases ht2 : t < 2
                  · have hrow : Kd.C (Kd.slice 127 k127) wr (some ⟨w2.heap.size, 0, none⟩) 2 [x.f3, x.f4] :=
                      two_rows ((hB.cell (p := ⟨w2.heap.size, 0, none⟩) (by simp)).trans (by simp [go_sem])) ((hB.cell (p := ⟨w2.heap.size, 1, none⟩) (by simp)).trans (by simp [go_sem])) Hc3.out Hc4.out (Kd.C_below HW3.out hB4) (Kd.C_below HW4.out hB4)
                    obtain ⟨ad2, Ap, cp, e2, g0, lp, hCp⟩ := L7_at hrow t ht2
                    simp only [Option.some.injEq] at e2
                    subst e2
                    rw [add_plain] at g0
                    have hS := HS.out
                    rw [shapesParts_at _ (by simpa using ht2), Option.bind_assoc] at hS
                    generalize [x.f3, x.f4].getD t [] = p at g0 lp hCp hS
                    obtain ⟨e, hp, hrest⟩ := Option.bind_eq_some_iff.1 hS
                    rw [← Hgo.out] at hp
                    have HP := Aside0.mk hp
                    have hlp := hCp.2.1
                    have HCp := Aside0.mk hCp
                    have Hlp := Aside0.mk lp
                    have hbb : w2.heap.size + 1 ≤ wr.heap.size := by have := hB.size; simp at this; omega
                    by_cases he : e = 0
                    · subst he
                      simp only [if_true] at hrest
                      have HQ := Aside0.mk hrest
                      clear hS HS hrow hrest hCp lp hB hp hB3 hB4
                      go_wp2_with (go_at_call 81; refine (IH.out _ _ _ _ _ _ HCp.out Hlp.out HP.out).mono ?_; rintro e w3 ⟨rfl, hb3⟩)
                      go_roundw
                      case rel => exact ⟨t + 1, by omega, by go_num, HQ, ⟨HB2.out.trans (hb3.mono hbb)⟩⟩
                      case measure => simp [intOf]; omega
                    · simp only [if_neg he, Option.bind_some, Option.some.injEq] at hrest
                      subst hrest
                      have heb : (e != 0) = true := by simp [he]
                      clear hS HS hrow hCp lp hB hp he hB3 hB4
                      go_wp2_with (go_at_call 81; refine (IH.out _ _ _ _ _ _ HCp.out Hlp.out HP.out).mono ?_; rintro e w3 ⟨rfl, hb3⟩)
                      go_ret
                      exact ⟨rfl, HB3.out.trans (hb3.mono HB3.out.size)⟩
                  · have hS := HS.out
                    rw [List.drop_of_length_le (by simp; omega)] at hS
                    simp only [shapesParts, Option.bind_some, if_true] at hS
                    have HS' := Aside0.mk hS
                    clear hS hB hB3 hB4
                    go_wp2
                    go_roundw
                    case rel => exact ⟨j + 1, by omega, by go_num, HS', HB3⟩
                    case measure => simp [intOf]; omega
            · rw [if_neg hi, if_neg (by decide), Option.some.injEq] at hL
              rw [decide_eq_false hi] at HK
              subst hL
              clear hk hk2 how hkk hbl hi HL
              rcases hb2b with ⟨p2, p3⟩ | p2
              all_goals
                go_wp2_with fail
                refine (codemasonref_Inside.calls kk a0 _ 1 [x.f1] false _ H3I.out (Nat.le_refl _) HK.out).mono ?_
                rintro e w2 ⟨rfl, hd2⟩
                have Hb2 := Aside0.mk hd2.below
                clear hd2
                go_wp2_with fail
                go_ret
                exact ⟨rfl, HB.out.trans ((Hbl.out.trans (Hb2.out.mono (by simp; omega))).mono HB.out.size)⟩
          · have how : kindOwn a0 x = 6 := by unfold kindOwn; rw [if_pos (by omega)]
            rw [how, if_neg (by decide), Option.some.injEq] at hL
            subst hL
            have p2 : (x.f0 != 2) = true := by simp; omega
            have p3 : (x.f0 != 3) = true := by simp; omega
            clear hk hk2 how HL
            go_wp2
            go_ret
            exact ⟨rfl, HB.out.alloc HB.out.size _⟩
      · have hL := HL.out
        rw [List.drop_of_length_le (by omega)] at hL
        simp only [shapesLoop, Option.some.injEq] at hL
        subst hL
        go_wp2
        go_ret
        exact ⟨rfl, HB.out⟩
end Go.Proofs.Ytaicamjpcnhjcaa.PA
namespace Go.Proofs.Ytaicamjpcnhjcaa.PA
open Go.RowKit Go.Proofs.YtaicamjpcnhjcaaW.PrintWords Go.Proofs.YtaicamjpcnhjcaaW.PrintLast Go.Proofs.YtaicamjpcnhjcaaW.PrintMore
set_option linter.unusedVariables false
set_option linter.unusedSimpArgs false
def ssPart (go : List S127 → Option (Int × Int × Int)) (p : List S127) (a : Int × Int × Int) : Option (Int × Int × Int) :=
  (go p).bind fun r => some (wrap64 (a.1 + r.1), wrap64 (a.2.1 + r.2.1), if a.2.2 < r.2.2 then r.2.2 else a.2.2)
def ssParts (go : List S127 → Option (Int × Int × Int)) : List (List S127) → Int × Int × Int → Option (Int × Int × Int)
  | [], a => some a
  | p :: t, a => (ssPart go p a).bind (ssParts go t)
def ssLoop (go : List S127 → Option (Int × Int × Int)) : List S127 → Int × Int × Int → Option (Int × Int × Int)
  | [], a => some a
  | x :: t, a => (ssParts go [x.f3, x.f4] (a.1, wrap64 (a.2.1 + x.f2.length), a.2.2)).bind (ssLoop go t)
def codemasonref_ShapeSize.f : Nat → List S127 → Int → Option (Int × Int × Int)
  | 0, _, _ => none
  | k + 1, l, deep => if l.length = 0 then some (0, 0, wrap64 (deep - 1)) else if (l.length : Int) > 8 ∨ deep > 5 then some (l.length, 0, deep) else ssLoop (fun p => codemasonref_ShapeSize.f k p (wrap64 (deep + 1))) l (l.length, 0, deep)
theorem ssLoop_at (go : List S127 → Option (Int × Int × Int)) {l : List S127} {i : Nat} (h : i < l.length) (a : Int × Int × Int) : ssLoop go (l.drop i) a = (ssParts go [(l.getD i z127).f3, (l.getD i z127).f4] (a.1, wrap64 (a.2.1 + (l.getD i z127).f2.length), a.2.2)).bind (ssLoop go (l.drop (i + 1))) := by
  rw [drop_at z127 h]; rfl
theorem ssParts_at (go : List S127 → Option (Int × Int × Int)) {l : List (List S127)} {i : Nat} (h : i < l.length) (a : Int × Int × Int) : ssParts go (l.drop i) a = (ssPart go (l.getD i []) a).bind (ssParts go (l.drop (i + 1))) := by
  rw [drop_at [] h]; rfl
theorem ssParts_mono {go go' : List S127 → Option (Int × Int × Int)} (h : ∀ p, LeO (go p) (go' p)) : ∀ l a, LeO (ssParts go l a) (ssParts go' l a)
  | [], a => LeO.refl _
  | p :: t, a => LeO.bind (by unfold ssPart; exact LeO.bind (h p) (fun _ => LeO.refl _)) (fun x => ssParts_mono h t x)
theorem ssLoop_mono {go go' : List S127 → Option (Int × Int × Int)} (h : ∀ p, LeO (go p) (go' p)) : ∀ l a, LeO (ssLoop go l a) (ssLoop go' l a)
  | [], a => LeO.refl _
  | x :: t, a => LeO.bind (ssParts_mono h _ _) (fun y => ssLoop_mono h t y)
theorem codemasonref_ShapeSize.mono : ∀ a0 a1 k, LeO (codemasonref_ShapeSize.f k a0 a1) (codemasonref_ShapeSize.f (k + 1) a0 a1) := fun a0 a1 k => by
  induction k generalizing a0 a1 with
  | zero => intro r h; cases h
  | succ k ih =>
    rw [codemasonref_ShapeSize.f, codemasonref_ShapeSize.f]
    exact LeO.ite (LeO.refl _) (LeO.ite (LeO.refl _) (ssLoop_mono (fun p => ih p _) _ _))
set_option maxRecDepth 100000 in
set_option maxHeartbeats 4000000 in
theorem codemasonref_ShapeSize.calls : ∀ (k : Nat) (A0 : Option Addr) (c0 : Nat) (l0 : List S127) (a1 : Int) (r1 r2 r3 : Int) (w : World) (hr0 : Kd.C k127 w A0 l0.length l0) (hc0 : l0.length ≤ c0) (h : codemasonref_ShapeSize.f k l0 a1 = some (r1, r2, r3)),
    Calls Try.prog 112 #[.slice A0 l0.length c0, .int .i64 a1] w fun e w' => e = .returned (.tuple #[.int .i64 r1, .int .i64 r2, .int .i64 r3]) ∧ Below w.heap.size w w' := by
  intro k
  induction k with
  | zero => intro _ _ _ _ _ _ _ _ _ _ h; simp [codemasonref_ShapeSize.f] at h
  | succ k ih =>
    intro A0 c0 l0 a1 r1 r2 r3 w hr0 hc0 h
    have IH := Aside0.mk ih
    clear ih
    have hl := hr0.2.1
    have HR := Aside0.mk hr0
    clear hr0
    rw [codemasonref_ShapeSize.f] at h
    by_cases hz : l0.length = 0
    · rw [if_pos hz, Option.some.injEq, Prod.mk.injEq, Prod.mk.injEq] at h
      obtain ⟨rfl, rfl, rfl⟩ := h
      have hzb : ((l0.length : Int) == 0) = true := by simp [hz]
      clear hz HR
      go_enter Try.func112, Try.ntmps112
      go_wp2
      go_ret3
      exact ⟨rfl, Below.refl _ _⟩
    rw [if_neg hz] at h
    have hzb : ((l0.length : Int) == 0) = false := by simp [hz]
    clear hz
    by_cases hd : (l0.length : Int) > 8 ∨ a1 > 5
    · rw [if_pos hd, Option.some.injEq, Prod.mk.injEq, Prod.mk.injEq] at h
      obtain ⟨rfl, rfl, rfl⟩ := h
      go_enter Try.func112, Try.ntmps112
      go_wp2
      all_goals
        go_ret3
        exact ⟨rfl, Below.refl _ _⟩
    · rw [if_neg hd] at h
      have hd1 : (l0.length : Int) ≤ 8 := by omega
      have hd2 : a1 ≤ 5 := by omega
      have HA := Aside0.mk h
      generalize hgo : (fun p => codemasonref_ShapeSize.f k p (wrap64 (a1 + 1))) = go at HA
      have Hgo := Aside0.mk hgo
      clear hd h hgo
      go_enter Try.func112, Try.ntmps112
      go_wp2_with fail
      go_loopw [7, 8, 9, 36] (fun m s d i wr => ∃ (j : Nat) (q1 q2 q3 : Int), j ≤ l0.length ∧ m = .int .i64 q1 ∧ s = .int .i64 q2 ∧ d = .int .i64 q3 ∧ i = .int .i64 j ∧ Aside0 (ssLoop go (l0.drop j) (q1, q2, q3) = some (r1, r2, r3)) ∧ Aside0 (Below w.heap.size w wr)) (fun _ _ _ i _ => l0.length - (intOf i).toNat)
      case atStart => exact ⟨0, _, _, _, by omega, rfl, rfl, rfl, rfl, HA, ⟨Below.refl _ _⟩⟩
      case round =>
        obtain ⟨j, q1, q2, q3, hj, rfl, rfl, rfl, rfl, HL, HB⟩ := hrel
        by_cases hjt : j < l0.length
        · obtain ⟨ad, A2, c2, A3, c3, A4, c4, e0, h0, h1, h2, h3, h4, lc2, hC2, lc3, hC3, lc4, hC4⟩ := T127_at (Kd.C_below HR.out HB.out) j hjt
          cases e0
          have hL := HL.out
          rw [ssLoop_at _ hjt] at hL
          generalize l0.getD j z127 = x at h0 h1 h2 h3 h4 lc2 hC2 lc3 hC3 lc4 hC4 hL
          have L2 := hC2.2.1
          have L3 := hC3.2.1
          have L4 := hC4.2.1
          have H3 := Aside0.mk hC3
          have H4 := Aside0.mk hC4
          replace HL := Aside0.mk hL
          have Hc3 := Aside0.mk lc3
          have Hc4 := Aside0.mk lc4
          clear hC2 hC3 hC4 hL lc2 lc3 lc4
          go_wp2_with fail
          obtain ⟨wo, ho⟩ : ∃ wo : World, wo = wr := ⟨_, rfl⟩
          subst ho
          go_loopw [7, 8, 9, 51] (fun m s d i w' => ∃ (t : Nat) (q1 q2 q3 : Int), t ≤ 2 ∧ m = .int .i64 q1 ∧ s = .int .i64 q2 ∧ d = .int .i64 q3 ∧ i = .int .i64 t ∧ Aside0 ((ssParts go ([x.f3, x.f4].drop t) (q1, q2, q3)).bind (ssLoop go (l0.drop (j + 1))) = some (r1, r2, r3)) ∧
            Aside0 (Below (wo.heap.size + 2) ((wo.alloc (.cells #[.int .i64 x.f0, .int .i64 x.f1, .slice A2 x.f2.length c2, .slice A3 x.f3.length c3, .slice A4 x.f4.length c4] 127)).alloc (.cells #[.slice A3 x.f3.length c3, .slice A4 x.f4.length c4] 22)) w')) (fun _ _ _ i _ => 2 - (intOf i).toNat)
          case atStart => exact ⟨0, _, _, _, by omega, rfl, rfl, rfl, rfl, HL, ⟨Below.refl _ _⟩⟩
          case round =>
            clear HL h0 h1 h2 h3 h4
            obtain ⟨t, q1, q2, q3, ht, rfl, rfl, rfl, rfl, HS, HB2⟩ := hrel
            have hB := HB2.out
            have hB3 : Below wo.heap.size wo wr := (((Below.refl _ _).alloc (Nat.le_refl _) _).alloc (by simp) _).trans (hB.mono (by omega))
            have HB3 := Aside0.mk hB3
            clear hB3
            by_cases ht2 : t < 2
            · have hrow : Kd.C (Kd.slice 127 k127) wr (some ⟨wo.heap.size + 1, 0, none⟩) 2 [x.f3, x.f4] :=
                two_rows ((hB.cell (p := ⟨wo.heap.size + 1, 0, none⟩) (by simp)).trans (by simp [go_sem])) ((hB.cell (p := ⟨wo.heap.size + 1, 1, none⟩) (by simp)).trans (by simp [go_sem])) Hc3.out Hc4.out (Kd.C_below H3.out HB3.out) (Kd.C_below H4.out HB3.out)
              obtain ⟨ad2, Ap, cp, e2, g0, lp, hCp⟩ := L7_at hrow t ht2
              simp only [Option.some.injEq] at e2
              subst e2
              rw [add_plain] at g0
              have hS := HS.out
              rw [ssParts_at _ (by simpa using ht2), Option.bind_assoc] at hS
              generalize [x.f3, x.f4].getD t [] = p at g0 lp hCp hS
              obtain ⟨⟨b1, b2, b3⟩, hp, hrest⟩ := Option.bind_eq_some_iff.1 hS
              have HP := Aside0.mk hrest
              have hlp := hCp.2.1
              have HCp := Aside0.mk hCp
              have Hlp := Aside0.mk lp
              have hbb : wo.heap.size + 2 ≤ wr.heap.size := by simpa using hB.size
              clear hS HS hrow hrest hCp lp hB
              rw [ssPart] at hp
              obtain ⟨⟨m1, m2, m3⟩, hg, hh⟩ := Option.bind_eq_some_iff.1 hp
              rw [← Hgo.out] at hg
              simp only [Option.some.injEq, Prod.mk.injEq] at hh
              obtain ⟨rfl, rfl, hh3⟩ := hh
              have HG := Aside0.mk hg
              clear hp hg
              by_cases hm : q3 < m3
              · rw [if_pos hm] at hh3
                subst hh3
                go_wp2_with (go_at_call 112; refine (IH.out _ _ _ _ _ _ _ _ HCp.out Hlp.out HG.out).mono ?_; rintro e w2 ⟨rfl, hb2⟩)
                go_roundw
                case rel => exact ⟨t + 1, _, _, _, by omega, rfl, rfl, rfl, by go_num, HP, ⟨HB2.out.trans (hb2.mono hbb)⟩⟩
                case measure => simp [intOf]; omega
              · rw [if_neg hm] at hh3
                subst hh3
                go_wp2_with (go_at_call 112; refine (IH.out _ _ _ _ _ _ _ _ HCp.out Hlp.out HG.out).mono ?_; rintro e w2 ⟨rfl, hb2⟩)
                go_roundw
                case rel => exact ⟨t + 1, _, _, _, by omega, rfl, rfl, rfl, by go_num, HP, ⟨HB2.out.trans (hb2.mono hbb)⟩⟩
                case measure => simp [intOf]; omega
            · have hS := HS.out
              rw [List.drop_of_length_le (by simp; omega)] at hS
              have HS' := Aside0.mk hS
              clear hS
              go_wp2
              go_roundw
              case rel => exact ⟨j + 1, _, _, _, by omega, rfl, rfl, rfl, by go_num, HS', ⟨HB.out.trans (HB3.out.mono HB.out.size)⟩⟩
              case measure => simp [intOf]; omega
        · have hL := HL.out
          rw [List.drop_of_length_le (by omega)] at hL
          simp only [ssLoop, Option.some.injEq, Prod.mk.injEq] at hL
          obtain ⟨rfl, rfl, rfl⟩ := hL
          go_wp2
          go_ret3
          exact ⟨rfl, HB.out⟩
end Go.Proofs.Ytaicamjpcnhjcaa.PA
namespace Go.Proofs.Ytaicamjpcnhjcaa.PA
open Go.RowKit Go.Proofs.YtaicamjpcnhjcaaW.PrintWords Go.Proofs.YtaicamjpcnhjcaaW.PrintLast Go.Proofs.YtaicamjpcnhjcaaW.PrintMore
set_option linter.unusedVariables false
set_option linter.unusedSimpArgs false
def codemasonref_ShapeCheck.f (k : Nat) (a0 : Int) (l1 : List (S127)) : Option (Int) := (codemasonref_ShapeSize.f k l1 1).bind fun bt649 => (if a0 < 1 then (some 1) else (if a0 > 6 then (some 1) else (if bt649.1 > 8 then (some 1) else (if bt649.2.1 > 20 then (some 1) else (if bt649.2.2 > 5 then (some 1) else ((codemasonref_shapeKinds.f k a0 l1).bind fun t652 => (some t652)))))))
theorem codemasonref_ShapeCheck.mono : ∀ a0 a1 k, LeO (codemasonref_ShapeCheck.f k a0 a1) (codemasonref_ShapeCheck.f (k + 1) a0 a1) := by
  intro a0 a1 k
  unfold codemasonref_ShapeCheck.f
  repeat' first
      | (with_reducible exact codemasonref_ShapeSize.mono _ _ _)
      | (with_reducible exact codemasonref_shapeKinds.mono _ _ _)
      | (with_reducible exact LeO.refl _)
      | (with_reducible exact LeO.none _)
      | (with_reducible refine LeO.ite ?_ ?_)
      | (with_reducible refine LeO.bind ?_ (fun _ => ?_))
      | exact codemasonref_ShapeSize.mono _ _ _
      | exact codemasonref_shapeKinds.mono _ _ _
      | exact LeO.none _
      | refine LeO.ite ?_ ?_
      | refine LeO.bind ?_ (fun _ => ?_)
set_option maxHeartbeats 8000000 in
set_option maxRecDepth 100000 in
theorem codemasonref_ShapeCheck.calls (k : Nat) (a0 : Int) (A1 : Option Addr) (c1 : Nat) (l1 : List (S127)) (r : Int) (w : World) (hr1 : Kd.C k127 w A1 l1.length l1) (hc1 : l1.length ≤ c1) (h : codemasonref_ShapeCheck.f k a0 l1 = some r) :
    Calls Try.prog 50 #[.int .i64 a0, .slice A1 l1.length c1] w fun e w' => e = .returned (.int .i64 r) ∧ Below w.heap.size w w' := by
  have HR1 := Aside0.mk hr1
  have HC1 := Aside0.mk hc1
  clear hr1 hc1
  have HB := Aside0.mk (Below.refl w.heap.size w)
  have H : ((codemasonref_ShapeSize.f k l1 1).bind fun bt649 => (if a0 < 1 then (some 1) else (if a0 > 6 then (some 1) else (if bt649.1 > 8 then (some 1) else (if bt649.2.1 > 20 then (some 1) else (if bt649.2.2 > 5 then (some 1) else ((codemasonref_shapeKinds.f k a0 l1).bind fun t652 => (some t652)))))))) = some r := h
  clear h
  replace H := Option.bind_eq_some_iff.mp H
  obtain ⟨⟨t649, t650, t651⟩, A30, H⟩ := H
  replace H : (if a0 < 1 then (some 1) else (if a0 > 6 then (some 1) else (if t649 > 8 then (some 1) else (if t650 > 20 then (some 1) else (if t651 > 5 then (some 1) else ((codemasonref_shapeKinds.f k a0 l1).bind fun t652 => (some t652))))))) = some r := H
  have A3 := Aside0.mk A30
  clear A30
  by_cases c4 : a0 < 1
  · rw [if_pos c4] at H
    have c4b0 : decide (a0 < 1) = true := decide_eq_true c4
    clear c4
    obtain rfl := Option.some.inj H
    go_enter Try.func50, Try.ntmps50
    go_wp2_with (first | ((with_reducible refine gate_callee (f := 112) rfl ?_); refine goesL_ (some 10) rfl rfl Try.func112 (by kernel_rfl) rfl #[.slice A1 l1.length c1, .int .i64 1] rfl (by (try simp only [List.map_toArray, List.map_cons, List.map_nil]); first | done | rfl | (simp only [List.length_drop, List.length_take]; rfl)) ?_; (with_reducible refine (codemasonref_ShapeSize.calls k _ _ l1 1 t649 t650 t651 _ ?side1 ?side2 A3.out).mono ?_); (case side1 => repeat (first | exact HR1.out | (with_reducible refine Kd.C_alloc ?_ _) | (with_reducible refine Kd.C_drewN ?_ _) | (with_reducible refine Kd.C_drew ?_))); (case side2 => exact HC1.out); rintro e w5 ⟨rfl, hb⟩; refine ⟨_, rfl, ?_⟩; have n0_ := Aside0.mk (below_step (by repeat (first | (with_reducible first | exact HB.out | apply below_alloc | apply pw_below_drewN | apply below_drew1) | exact HB.out)) hb); clear HB; have HB := n0_; clear n0_; (try clear hb); (try clear hb2); (try clear hk); (try clear hi)))
    go_ret
    exact ⟨by first | rfl | (simp [errW_none, errW_some] <;> rfl) | (simp [*, errW_none, errW_some] <;> rfl), by repeat (first | (with_reducible first | exact HB.out | apply below_alloc | apply pw_below_drewN | apply below_drew1) | exact HB.out)⟩
  · rw [if_neg c4] at H
    have c4b0 : decide (a0 < 1) = false := decide_eq_false c4
    clear c4
    by_cases c6 : a0 > 6
    · rw [if_pos c6] at H
      have c6b0 : decide (6 < a0) = true := decide_eq_true c6
      clear c6
      obtain rfl := Option.some.inj H
      go_enter Try.func50, Try.ntmps50
      go_wp2_with (first | ((with_reducible refine gate_callee (f := 112) rfl ?_); refine goesL_ (some 10) rfl rfl Try.func112 (by kernel_rfl) rfl #[.slice A1 l1.length c1, .int .i64 1] rfl (by (try simp only [List.map_toArray, List.map_cons, List.map_nil]); first | done | rfl | (simp only [List.length_drop, List.length_take]; rfl)) ?_; (with_reducible refine (codemasonref_ShapeSize.calls k _ _ l1 1 t649 t650 t651 _ ?side1 ?side2 A3.out).mono ?_); (case side1 => repeat (first | exact HR1.out | (with_reducible refine Kd.C_alloc ?_ _) | (with_reducible refine Kd.C_drewN ?_ _) | (with_reducible refine Kd.C_drew ?_))); (case side2 => exact HC1.out); rintro e w7 ⟨rfl, hb⟩; refine ⟨_, rfl, ?_⟩; have n0_ := Aside0.mk (below_step (by repeat (first | (with_reducible first | exact HB.out | apply below_alloc | apply pw_below_drewN | apply below_drew1) | exact HB.out)) hb); clear HB; have HB := n0_; clear n0_; (try clear hb); (try clear hb2); (try clear hk); (try clear hi)))
      go_ret
      exact ⟨by first | rfl | (simp [errW_none, errW_some] <;> rfl) | (simp [*, errW_none, errW_some] <;> rfl), by repeat (first | (with_reducible first | exact HB.out | apply below_alloc | apply pw_below_drewN | apply below_drew1) | exact HB.out)⟩
    · rw [if_neg c6] at H
      have c6b0 : decide (6 < a0) = false := decide_eq_false c6
      clear c6
      by_cases c8 : t649 > 8
      · rw [if_pos c8] at H
        have c8b0 : decide (8 < t649) = true := decide_eq_true c8
        clear c8
        obtain rfl := Option.some.inj H
        go_enter Try.func50, Try.ntmps50
        go_wp2_with (first | ((with_reducible refine gate_callee (f := 112) rfl ?_); refine goesL_ (some 10) rfl rfl Try.func112 (by kernel_rfl) rfl #[.slice A1 l1.length c1, .int .i64 1] rfl (by (try simp only [List.map_toArray, List.map_cons, List.map_nil]); first | done | rfl | (simp only [List.length_drop, List.length_take]; rfl)) ?_; (with_reducible refine (codemasonref_ShapeSize.calls k _ _ l1 1 t649 t650 t651 _ ?side1 ?side2 A3.out).mono ?_); (case side1 => repeat (first | exact HR1.out | (with_reducible refine Kd.C_alloc ?_ _) | (with_reducible refine Kd.C_drewN ?_ _) | (with_reducible refine Kd.C_drew ?_))); (case side2 => exact HC1.out); rintro e w9 ⟨rfl, hb⟩; refine ⟨_, rfl, ?_⟩; have n0_ := Aside0.mk (below_step (by repeat (first | (with_reducible first | exact HB.out | apply below_alloc | apply pw_below_drewN | apply below_drew1) | exact HB.out)) hb); clear HB; have HB := n0_; clear n0_; (try clear hb); (try clear hb2); (try clear hk); (try clear hi)))
        go_ret
        exact ⟨by first | rfl | (simp [errW_none, errW_some] <;> rfl) | (simp [*, errW_none, errW_some] <;> rfl), by repeat (first | (with_reducible first | exact HB.out | apply below_alloc | apply pw_below_drewN | apply below_drew1) | exact HB.out)⟩
      · rw [if_neg c8] at H
        have c8b0 : decide (8 < t649) = false := decide_eq_false c8
        clear c8
        by_cases c10 : t650 > 20
        · rw [if_pos c10] at H
          have c10b0 : decide (20 < t650) = true := decide_eq_true c10
          clear c10
          obtain rfl := Option.some.inj H
          go_enter Try.func50, Try.ntmps50
          go_wp2_with (first | ((with_reducible refine gate_callee (f := 112) rfl ?_); refine goesL_ (some 10) rfl rfl Try.func112 (by kernel_rfl) rfl #[.slice A1 l1.length c1, .int .i64 1] rfl (by (try simp only [List.map_toArray, List.map_cons, List.map_nil]); first | done | rfl | (simp only [List.length_drop, List.length_take]; rfl)) ?_; (with_reducible refine (codemasonref_ShapeSize.calls k _ _ l1 1 t649 t650 t651 _ ?side1 ?side2 A3.out).mono ?_); (case side1 => repeat (first | exact HR1.out | (with_reducible refine Kd.C_alloc ?_ _) | (with_reducible refine Kd.C_drewN ?_ _) | (with_reducible refine Kd.C_drew ?_))); (case side2 => exact HC1.out); rintro e w11 ⟨rfl, hb⟩; refine ⟨_, rfl, ?_⟩; have n0_ := Aside0.mk (below_step (by repeat (first | (with_reducible first | exact HB.out | apply below_alloc | apply pw_below_drewN | apply below_drew1) | exact HB.out)) hb); clear HB; have HB := n0_; clear n0_; (try clear hb); (try clear hb2); (try clear hk); (try clear hi)))
          go_ret
          exact ⟨by first | rfl | (simp [errW_none, errW_some] <;> rfl) | (simp [*, errW_none, errW_some] <;> rfl), by repeat (first | (with_reducible first | exact HB.out | apply below_alloc | apply pw_below_drewN | apply below_drew1) | exact HB.out)⟩
        · rw [if_neg c10] at H
          have c10b0 : decide (20 < t650) = false := decide_eq_false c10
          clear c10
          by_cases c12 : t651 > 5
          · rw [if_pos c12] at H
            have c12b0 : decide (5 < t651) = true := decide_eq_true c12
            clear c12
            obtain rfl := Option.some.inj H
            go_enter Try.func50, Try.ntmps50
            go_wp2_with (first | ((with_reducible refine gate_callee (f := 112) rfl ?_); refine goesL_ (some 10) rfl rfl Try.func112 (by kernel_rfl) rfl #[.slice A1 l1.length c1, .int .i64 1] rfl (by (try simp only [List.map_toArray, List.map_cons, List.map_nil]); first | done | rfl | (simp only [List.length_drop, List.length_take]; rfl)) ?_; (with_reducible refine (codemasonref_ShapeSize.calls k _ _ l1 1 t649 t650 t651 _ ?side1 ?side2 A3.out).mono ?_); (case side1 => repeat (first | exact HR1.out | (with_reducible refine Kd.C_alloc ?_ _) | (with_reducible refine Kd.C_drewN ?_ _) | (with_reducible refine Kd.C_drew ?_))); (case side2 => exact HC1.out); rintro e w13 ⟨rfl, hb⟩; refine ⟨_, rfl, ?_⟩; have n0_ := Aside0.mk (below_step (by repeat (first | (with_reducible first | exact HB.out | apply below_alloc | apply pw_below_drewN | apply below_drew1) | exact HB.out)) hb); clear HB; have HB := n0_; clear n0_; (try clear hb); (try clear hb2); (try clear hk); (try clear hi)))
            go_ret
            exact ⟨by first | rfl | (simp [errW_none, errW_some] <;> rfl) | (simp [*, errW_none, errW_some] <;> rfl), by repeat (first | (with_reducible first | exact HB.out | apply below_alloc | apply pw_below_drewN | apply below_drew1) | exact HB.out)⟩
          · rw [if_neg c12] at H
            have c12b0 : decide (5 < t651) = false := decide_eq_false c12
            clear c12
            replace H := Option.bind_eq_some_iff.mp H
            obtain ⟨t652, A140, H⟩ := H
            replace H : (some t652) = some r := H
            have A14 := Aside0.mk A140
            clear A140
            obtain rfl := Option.some.inj H
            go_enter Try.func50, Try.ntmps50
            go_wp2_with (first | ((with_reducible refine gate_callee (f := 112) rfl ?_); refine goesL_ (some 10) rfl rfl Try.func112 (by kernel_rfl) rfl #[.slice A1 l1.length c1, .int .i64 1] rfl (by (try simp only [List.map_toArray, List.map_cons, List.map_nil]); first | done | rfl | (simp only [List.length_drop, List.length_take]; rfl)) ?_; (with_reducible refine (codemasonref_ShapeSize.calls k _ _ l1 1 t649 t650 t651 _ ?side1 ?side2 A3.out).mono ?_); (case side1 => repeat (first | exact HR1.out | (with_reducible refine Kd.C_alloc ?_ _) | (with_reducible refine Kd.C_drewN ?_ _) | (with_reducible refine Kd.C_drew ?_))); (case side2 => exact HC1.out); rintro e w15 ⟨rfl, hb⟩; refine ⟨_, rfl, ?_⟩; have n0_ := Aside0.mk (below_step (by repeat (first | (with_reducible first | exact HB.out | apply below_alloc | apply pw_below_drewN | apply below_drew1) | exact HB.out)) hb); clear HB; have HB := n0_; clear n0_; (try clear hb); (try clear hb2); (try clear hk); (try clear hi)) | ((with_reducible refine gate_callee (f := 81) rfl ?_); refine goesL_ (some 34) rfl rfl Try.func81 (by kernel_rfl) rfl #[.int .i64 a0, .slice A1 l1.length c1] rfl (by (try simp only [List.map_toArray, List.map_cons, List.map_nil]); first | done | rfl | (simp only [List.length_drop, List.length_take]; rfl)) ?_; (with_reducible refine (codemasonref_shapeKinds.calls k a0 _ _ l1 t652 _ ?side1 ?side2 A14.out).mono ?_); (case side1 => repeat (first | exact (Kd.C_below HR1.out HB.out) | (with_reducible refine Kd.C_alloc ?_ _) | (with_reducible refine Kd.C_drewN ?_ _) | (with_reducible refine Kd.C_drew ?_))); (case side2 => exact HC1.out); rintro e w16 ⟨rfl, hb⟩; refine ⟨_, rfl, ?_⟩; have n0_ := Aside0.mk (below_step (by repeat (first | (with_reducible first | exact HB.out | apply below_alloc | apply pw_below_drewN | apply below_drew1) | exact HB.out)) hb); clear HB; have HB := n0_; clear n0_; (try clear hb); (try clear hb2); (try clear hk); (try clear hi)))
            go_ret
            exact ⟨by first | rfl | (simp [errW_none, errW_some] <;> rfl) | (simp [*, errW_none, errW_some] <;> rfl), by repeat (first | (with_reducible first | exact HB.out | apply below_alloc | apply pw_below_drewN | apply below_drew1) | exact HB.out)⟩
end Go.Proofs.Ytaicamjpcnhjcaa.PA
namespace Go.Proofs.Ytaicamjpcnhjcaa.PA
open Go.RowKit Go.Proofs.YtaicamjpcnhjcaaW.PrintWords Go.Proofs.YtaicamjpcnhjcaaW.PrintLast Go.Proofs.YtaicamjpcnhjcaaW.PrintMore
set_option linter.unusedVariables false
set_option linter.unusedSimpArgs false
def codemasonlaw_ShapeRuns.j0 : Nat → List (S127) → List Int → List Int → Int → Int → Option (Bool)
  | 0, _, _, _, _, _ => none
  | k + 1, x1, x2, x7, x8, x9 => if x9 = 0 then ((codemasonref_Shaped.f k x1 x2 200).bind fun bt732 => (if bt732.2 < 0 then (if x8 = 7 then ((codemasonref_Ints.f k x7 ([] : List Int)).bind fun t736 => (some t736)) else (some false)) else (if x8 = x9 then ((codemasonref_Ints.f k x7 bt732.1).bind fun t737 => (some t737)) else (some false)))) else (if x8 = x9 then ((codemasonref_Ints.f k x7 ([] : List Int)).bind fun t738 => (some t738)) else (some false))
def codemasonlaw_ShapeRuns.f (k : Nat) (a0 : Int) (l1 : List (S127)) (l2 : List Int) : Option (Bool) := (shape_Run.f k a0 l1 l2).bind fun bt726 => ((codemasonref_ShapeCheck.f k a0 l1).bind fun t730 => (if t730 = 0 then ((codemasonref_HaveCheck.f k a0 l2).bind fun t731 => (codemasonlaw_ShapeRuns.j0 k l1 l2 bt726.1 bt726.2 t731)) else (codemasonlaw_ShapeRuns.j0 k l1 l2 bt726.1 bt726.2 t730)))
theorem codemasonlaw_ShapeRuns.mono_l : ∀ k, (∀ y0 y1 y2 y3 y4, LeO (codemasonlaw_ShapeRuns.j0 k y0 y1 y2 y3 y4) (codemasonlaw_ShapeRuns.j0 (k + 1) y0 y1 y2 y3 y4))
  | 0 => fun _ _ _ _ _ r h => by simp [codemasonlaw_ShapeRuns.j0] at h
  | k + 1 => by
    have ih0 := codemasonlaw_ShapeRuns.mono_l k
    · intro y0 y1 y2 y3 y4
      unfold codemasonlaw_ShapeRuns.j0
      repeat' first
      | (with_reducible exact ih0 _ _ _ _ _)
      | (with_reducible exact codemasonref_HaveCheck.mono _ _ _)
      | (with_reducible exact codemasonref_Ints.mono _ _ _)
      | (with_reducible exact codemasonref_ShapeCheck.mono _ _ _)
      | (with_reducible exact codemasonref_Shaped.mono _ _ _ _)
      | (with_reducible exact shape_Run.mono _ _ _ _)
      | (with_reducible exact LeO.refl _)
      | (with_reducible exact LeO.none _)
      | (with_reducible refine LeO.ite ?_ ?_)
      | (with_reducible refine LeO.bind ?_ (fun _ => ?_))
      | exact ih0 _ _ _ _ _
      | exact codemasonref_HaveCheck.mono _ _ _
      | exact codemasonref_Ints.mono _ _ _
      | exact codemasonref_ShapeCheck.mono _ _ _
      | exact codemasonref_Shaped.mono _ _ _ _
      | exact shape_Run.mono _ _ _ _
      | exact LeO.none _
      | refine LeO.ite ?_ ?_
      | refine LeO.bind ?_ (fun _ => ?_)
theorem codemasonlaw_ShapeRuns.mono : ∀ a0 a1 a2 k, LeO (codemasonlaw_ShapeRuns.f k a0 a1 a2) (codemasonlaw_ShapeRuns.f (k + 1) a0 a1 a2) := by
  intro a0 a1 a2 k
  have ih0 := codemasonlaw_ShapeRuns.mono_l k
  unfold codemasonlaw_ShapeRuns.f
  repeat' first
      | (with_reducible exact ih0 _ _ _ _ _)
      | (with_reducible exact codemasonref_HaveCheck.mono _ _ _)
      | (with_reducible exact codemasonref_Ints.mono _ _ _)
      | (with_reducible exact codemasonref_ShapeCheck.mono _ _ _)
      | (with_reducible exact codemasonref_Shaped.mono _ _ _ _)
      | (with_reducible exact shape_Run.mono _ _ _ _)
      | (with_reducible exact LeO.refl _)
      | (with_reducible exact LeO.none _)
      | (with_reducible refine LeO.ite ?_ ?_)
      | (with_reducible refine LeO.bind ?_ (fun _ => ?_))
      | exact ih0 _ _ _ _ _
      | exact codemasonref_HaveCheck.mono _ _ _
      | exact codemasonref_Ints.mono _ _ _
      | exact codemasonref_ShapeCheck.mono _ _ _
      | exact codemasonref_Shaped.mono _ _ _ _
      | exact shape_Run.mono _ _ _ _
      | exact LeO.none _
      | refine LeO.ite ?_ ?_
      | refine LeO.bind ?_ (fun _ => ?_)
set_option maxHeartbeats 8000000 in
set_option maxRecDepth 100000 in
theorem codemasonlaw_ShapeRuns.calls (k : Nat) (a0 : Int) (A1 : Option Addr) (c1 : Nat) (l1 : List (S127)) (A2 : Option Addr) (c2 : Nat) (l2 : List Int) (r : Bool) (w : World) (hr1 : Kd.C k127 w A1 l1.length l1) (hc1 : l1.length ≤ c1) (hr2 : Kd.C (Kd.int .i64) w A2 l2.length l2) (hc2 : l2.length ≤ c2) (h : codemasonlaw_ShapeRuns.f k a0 l1 l2 = some r) :
    Calls Try.prog 13 #[.int .i64 a0, .slice A1 l1.length c1, .slice A2 l2.length c2] w fun e w' => e = .returned (.bool r) ∧ Below w.heap.size w w' := by
  have HR1 := Aside0.mk hr1
  have HC1 := Aside0.mk hc1
  clear hr1 hc1
  have HR2 := Aside0.mk hr2
  have HC2 := Aside0.mk hc2
  clear hr2 hc2
  have HB := Aside0.mk (Below.refl w.heap.size w)
  have H : ((shape_Run.f k a0 l1 l2).bind fun bt726 => ((codemasonref_ShapeCheck.f k a0 l1).bind fun t730 => (if t730 = 0 then ((codemasonref_HaveCheck.f k a0 l2).bind fun t731 => (codemasonlaw_ShapeRuns.j0 k l1 l2 bt726.1 bt726.2 t731)) else (codemasonlaw_ShapeRuns.j0 k l1 l2 bt726.1 bt726.2 t730)))) = some r := h
  clear h
  replace H := Option.bind_eq_some_iff.mp H
  obtain ⟨⟨t726, t727⟩, A40, H⟩ := H
  replace H : ((codemasonref_ShapeCheck.f k a0 l1).bind fun t730 => (if t730 = 0 then ((codemasonref_HaveCheck.f k a0 l2).bind fun t731 => (codemasonlaw_ShapeRuns.j0 k l1 l2 t726 t727 t731)) else (codemasonlaw_ShapeRuns.j0 k l1 l2 t726 t727 t730))) = some r := H
  have A4 := Aside0.mk A40
  clear A40
  replace H := Option.bind_eq_some_iff.mp H
  obtain ⟨t730, A50, H⟩ := H
  replace H : (if t730 = 0 then ((codemasonref_HaveCheck.f k a0 l2).bind fun t731 => (codemasonlaw_ShapeRuns.j0 k l1 l2 t726 t727 t731)) else (codemasonlaw_ShapeRuns.j0 k l1 l2 t726 t727 t730)) = some r := H
  have A5 := Aside0.mk A50
  clear A50
  have HC6 := Aside0.mk H
  clear H
  go_enter Try.func13, Try.ntmps13
  go_upto_if 24 with (first | ((with_reducible refine gate_callee (f := 21) rfl ?_); refine goesL_ (some 17) rfl rfl Try.func21 (by kernel_rfl) rfl #[.int .i64 a0, .slice A1 l1.length c1, .slice A2 l2.length c2] rfl (by (try simp only [List.map_toArray, List.map_cons, List.map_nil]); first | done | rfl | (simp only [List.length_drop, List.length_take]; rfl)) ?_; (with_reducible refine (shape_Run.calls k a0 _ _ l1 _ _ l2 t726 t727 _ ?side1 ?side2 ?side3 ?side4 A4.out).mono ?_); (case side1 => repeat (first | exact HR1.out | (with_reducible refine Kd.C_alloc ?_ _) | (with_reducible refine Kd.C_drewN ?_ _) | (with_reducible refine Kd.C_drew ?_))); (case side2 => exact HC1.out); (case side3 => repeat (first | exact HR2.out | (with_reducible refine Kd.C_alloc ?_ _) | (with_reducible refine Kd.C_drewN ?_ _) | (with_reducible refine Kd.C_drew ?_))); (case side4 => exact HC2.out); rintro e w7 ⟨v728, rfl, ho0, hb⟩; refine ⟨_, rfl, ?_⟩; have n0_ := Aside0.mk (Kd.R_lower ho0 (below_size (by repeat (first | (with_reducible first | exact HB.out | apply below_alloc | apply pw_below_drewN | apply below_drew1) | exact HB.out)))); have n1_ := Aside0.mk (below_step (by repeat (first | (with_reducible first | exact HB.out | apply below_alloc | apply pw_below_drewN | apply below_drew1) | exact HB.out)) hb); clear HB; have HO729 := n0_; have HB := n1_; clear n0_ n1_; (try clear hb); (try clear hb2); (try clear hk); (try clear hi); (try clear ho0)) | ((with_reducible refine gate_callee (f := 50) rfl ?_); refine goesL_ (some 22) rfl rfl Try.func50 (by kernel_rfl) rfl #[.int .i64 a0, .slice A1 l1.length c1] rfl (by (try simp only [List.map_toArray, List.map_cons, List.map_nil]); first | done | rfl | (simp only [List.length_drop, List.length_take]; rfl)) ?_; (with_reducible refine (codemasonref_ShapeCheck.calls k a0 _ _ l1 t730 _ ?side1 ?side2 A5.out).mono ?_); (case side1 => repeat (first | exact (Kd.C_below HR1.out HB.out) | (with_reducible refine Kd.C_alloc ?_ _) | (with_reducible refine Kd.C_drewN ?_ _) | (with_reducible refine Kd.C_drew ?_))); (case side2 => exact HC1.out); rintro e w8 ⟨rfl, hb⟩; refine ⟨_, rfl, ?_⟩; have n0_ := Aside0.mk (Kd.R_below (by (with_reducible repeat (first | apply Kd.R_alloc | apply Kd.R_drewN | apply Kd.R_drew)); exact HO729.out) hb); have n1_ := Aside0.mk (below_step (by repeat (first | (with_reducible first | exact HB.out | apply below_alloc | apply pw_below_drewN | apply below_drew1) | exact HB.out)) hb); clear HO729; clear HB; have HO729 := n0_; have HB := n1_; clear n0_ n1_; (try clear hb); (try clear hb2); (try clear hk); (try clear hi)))
  (try simp only [Act.put, List.setIfInBounds_toArray, List.set_cons_zero, List.set_cons_succ])
  go_cut [9] (fun v9 wc => ∃ (kq : Nat) (x9_5 : Int), v9 = .int .i64 x9_5 ∧ Aside0 (codemasonlaw_ShapeRuns.j0 kq l1 l2 t726 t727 x9_5 = some r) ∧ Aside0 (kq ≤ k) ∧ Aside0 (Kd.R (Kd.int .i64) 3 wc w.heap.size (fun _ => True) v728 t726) ∧ Aside0 (Below w.heap.size w wc))
  case first =>
    have H := HC6.out
    clear HC6
    by_cases c9 : t730 = 0
    · rw [if_pos c9] at H
      have c9b0 : (t730 == 0) = true := beq_iff_eq.mpr c9
      have c9b1 : (t730 != 0) = false := bne_eq_false_iff_eq.mpr c9
      clear c9
      (first | rw [c9b0] | (simp only [i64_w, i32_w]; rw [c9b0]) | skip)
      replace H := Option.bind_eq_some_iff.mp H
      obtain ⟨t731, A100, H⟩ := H
      replace H : (codemasonlaw_ShapeRuns.j0 k l1 l2 t726 t727 t731) = some r := H
      have A10 := Aside0.mk A100
      clear A100
      have H' := Aside0.mk H
      clear H
      go_wp2_with (first | ((with_reducible refine gate_callee (f := 33) rfl ?_); refine goesL_ (some 27) rfl rfl Try.func33 (by kernel_rfl) rfl #[.int .i64 a0, .slice A2 l2.length c2] rfl (by (try simp only [List.map_toArray, List.map_cons, List.map_nil]); first | done | rfl | (simp only [List.length_drop, List.length_take]; rfl)) ?_; (with_reducible refine (codemasonref_HaveCheck.calls k a0 _ _ l2 t731 _ ?side1 ?side2 A10.out).mono ?_); (case side1 => repeat (first | exact (Kd.C_below HR2.out HB.out) | (with_reducible refine Kd.C_alloc ?_ _) | (with_reducible refine Kd.C_drewN ?_ _) | (with_reducible refine Kd.C_drew ?_))); (case side2 => exact HC2.out); rintro e w' ⟨rfl, ⟨nd, rfl⟩⟩; refine ⟨_, rfl, ?_⟩))
      go_meet
      case rel => exact ⟨_, (t731), (by first | rfl | (simp; done) | (simp [*]; done)), H', ⟨by first | omega | exact Nat.le_refl _⟩, ⟨by (with_reducible repeat (first | apply Kd.R_alloc | apply Kd.R_drewN | apply Kd.R_drew)); exact HO729.out⟩, ⟨by repeat (first | (with_reducible first | exact HB.out | apply below_alloc | apply pw_below_drewN | apply below_drew1) | exact HB.out)⟩⟩
    · rw [if_neg c9] at H
      have c9b0 : (t730 == 0) = false := beq_eq_false_iff_ne.mpr c9
      have c9b1 : (t730 != 0) = true := bne_iff_ne.mpr c9
      (first | rw [c9b0] | (simp only [i64_w, i32_w]; rw [c9b0]) | skip)
      have H' := Aside0.mk H
      clear H
      go_wp2
      go_meet
      case rel => exact ⟨_, (t730), (by first | rfl | (simp; done) | (simp [*]; done)), H', ⟨by first | omega | exact Nat.le_refl _⟩, ⟨by (with_reducible repeat (first | apply Kd.R_alloc | apply Kd.R_drewN | apply Kd.R_drew)); exact HO729.out⟩, ⟨by repeat (first | (with_reducible first | exact HB.out | apply below_alloc | apply pw_below_drewN | apply below_drew1) | exact HB.out)⟩⟩
  case rest =>
    clear HC6
    try clear c1
    try clear c2
    try clear p2
    try clear c3
    try clear c5
    try clear c9
    try clear c9b0
    try clear c9b1
    obtain ⟨kq, x9_5, rfl, HA, HJ5, HO_7, HB⟩ := hcut
    cases kq with
    | zero => exact absurd HA.out (by simp [codemasonlaw_ShapeRuns.j0])
    | succ kj5 =>
      have H := HA.out
      clear HA
      simp only [codemasonlaw_ShapeRuns.j0] at H
      by_cases c11 : x9_5 = 0
      · rw [if_pos c11] at H
        have c11b0 : (x9_5 == 0) = true := beq_iff_eq.mpr c11
        have c11b1 : (x9_5 != 0) = false := bne_eq_false_iff_eq.mpr c11
        clear c11
        replace H := Option.bind_eq_some_iff.mp H
        obtain ⟨⟨t732, t735⟩, A120, H⟩ := H
        replace H : (if t735 < 0 then (if t727 = 7 then ((codemasonref_Ints.f kj5 t726 ([] : List Int)).bind fun t736 => (some t736)) else (some false)) else (if t727 = x9_5 then ((codemasonref_Ints.f kj5 t726 t732).bind fun t737 => (some t737)) else (some false))) = some r := H
        have A12 := Aside0.mk A120
        clear A120
        by_cases c13 : t735 < 0
        · rw [if_pos c13] at H
          have c13b0 : decide (t735 < 0) = true := decide_eq_true c13
          clear c13
          by_cases c14 : t727 = 7
          · rw [if_pos c14] at H
            have c14b0 : (t727 == 7) = true := beq_iff_eq.mpr c14
            have c14b1 : (t727 != 7) = false := bne_eq_false_iff_eq.mpr c14
            clear c14
            replace H := Option.bind_eq_some_iff.mp H
            obtain ⟨t736, A150, H⟩ := H
            replace H : (some t736) = some r := H
            have A15 := Aside0.mk A150
            clear A150
            obtain rfl := Option.some.inj H
            go_wp2_with (first | ((with_reducible refine gate_callee (f := 35) rfl ?_); refine goesL_ (some 33) rfl rfl Try.func35 (by kernel_rfl) rfl #[.slice A1 l1.length c1, .slice A2 l2.length c2, .int .i64 200] rfl (by (try simp only [List.map_toArray, List.map_cons, List.map_nil]); first | done | rfl | (simp only [List.length_drop, List.length_take]; rfl)) ?_; (with_reducible refine (codemasonref_Shaped.calls kj5 _ _ l1 (fun k_ => k_ < w.heap.size) _ _ l2 200 t732 t735 _ ?side1 ?side2 ?side3 A12.out).mono ?_); (case side1 => repeat (first | exact (Kd.C_below HR1.out HB.out) | (with_reducible refine Kd.C_alloc ?_ _) | (with_reducible refine Kd.C_drewN ?_ _) | (with_reducible refine Kd.C_drew ?_))); (case side2 => exact HC1.out); (case side3 => exact Kd.V_mk HC2.out (Kd.F_below (Kd.C_F (Kd.heap_int .i64) HR2.out) (by repeat (first | (with_reducible first | exact HB.out | apply below_alloc | apply pw_below_drewN | apply below_drew1) | exact HB.out)))); rintro e w16 ⟨v733, rfl, ho0, hb⟩; refine ⟨_, rfl, ?_⟩; have n0_ := Aside0.mk (Kd.R_below (by (with_reducible repeat (first | apply Kd.R_alloc | apply Kd.R_drewN | apply Kd.R_drew)); exact HO_7.out) hb); have n1_ := Aside0.mk (Kd.V_lower (Kd.V_mono (ok' := fun k_ => some k_ ≠ (v728 : Value).ownBlock) ho0 (fun k_ hk_ => Or.elim hk_ (fun hs_ => fun e_ => Nat.not_le.2 hs_ (Kd.R_base HO_7.out k_ e_.symm)) (fun hn_ => (Kd.fresh' (Kd.R_lt (by (with_reducible repeat (first | apply Kd.R_alloc | apply Kd.R_drewN | apply Kd.R_drew)); exact HO_7.out)) k_ hn_)))) (below_size (by repeat (first | (with_reducible first | exact HB.out | apply below_alloc | apply pw_below_drewN | apply below_drew1) | exact HB.out)))); have n2_ := Aside0.mk (below_step (by repeat (first | (with_reducible first | exact HB.out | apply below_alloc | apply pw_below_drewN | apply below_drew1) | exact HB.out)) hb); clear HO_7; clear HB; have HO_7 := n0_; have HO734 := n1_; have HB := n2_; clear n0_ n1_ n2_; (try clear hb); (try clear hb2); (try clear hk); (try clear hi); (try clear ho0); obtain ⟨Ao17, co17, eo17⟩ := Kd.R_slice HO_7.out; subst eo17) | (go_at_call 24; (refine (codemasonref_Ints.calls kj5 _ _ t726 _ _ ([] : List Int) t736 _ ?side1 ?side2 ?side3 ?side4 A15.out).mono ?_); (case side1 => repeat (first | exact (Kd.R_reads' HO_7.out).2.2 | (with_reducible refine Kd.C_alloc ?_ _) | (with_reducible refine Kd.C_drewN ?_ _) | (with_reducible refine Kd.C_drew ?_))); (case side2 => exact (Kd.R_reads' HO_7.out).2.1); (case side3 => exact Kd.C_nil _ _); (case side4 => exact Nat.le_refl _); rintro e w' ⟨rfl, ⟨nd, rfl⟩⟩))
            go_ret
            exact ⟨by first | rfl | (simp [errW_none, errW_some] <;> rfl) | (simp [*, errW_none, errW_some] <;> rfl), by repeat (first | (with_reducible first | exact HB.out | apply below_alloc | apply pw_below_drewN | apply below_drew1) | exact HB.out)⟩
          · rw [if_neg c14] at H
            have c14b0 : (t727 == 7) = false := beq_eq_false_iff_ne.mpr c14
            have c14b1 : (t727 != 7) = true := bne_iff_ne.mpr c14
            obtain rfl := Option.some.inj H
            go_wp2_with (first | ((with_reducible refine gate_callee (f := 35) rfl ?_); refine goesL_ (some 33) rfl rfl Try.func35 (by kernel_rfl) rfl #[.slice A1 l1.length c1, .slice A2 l2.length c2, .int .i64 200] rfl (by (try simp only [List.map_toArray, List.map_cons, List.map_nil]); first | done | rfl | (simp only [List.length_drop, List.length_take]; rfl)) ?_; (with_reducible refine (codemasonref_Shaped.calls kj5 _ _ l1 (fun k_ => k_ < w.heap.size) _ _ l2 200 t732 t735 _ ?side1 ?side2 ?side3 A12.out).mono ?_); (case side1 => repeat (first | exact (Kd.C_below HR1.out HB.out) | (with_reducible refine Kd.C_alloc ?_ _) | (with_reducible refine Kd.C_drewN ?_ _) | (with_reducible refine Kd.C_drew ?_))); (case side2 => exact HC1.out); (case side3 => exact Kd.V_mk HC2.out (Kd.F_below (Kd.C_F (Kd.heap_int .i64) HR2.out) (by repeat (first | (with_reducible first | exact HB.out | apply below_alloc | apply pw_below_drewN | apply below_drew1) | exact HB.out)))); rintro e w18 ⟨v733, rfl, ho0, hb⟩; refine ⟨_, rfl, ?_⟩; have n0_ := Aside0.mk (Kd.R_below (by (with_reducible repeat (first | apply Kd.R_alloc | apply Kd.R_drewN | apply Kd.R_drew)); exact HO_7.out) hb); have n1_ := Aside0.mk (Kd.V_lower (Kd.V_mono (ok' := fun k_ => some k_ ≠ (v728 : Value).ownBlock) ho0 (fun k_ hk_ => Or.elim hk_ (fun hs_ => fun e_ => Nat.not_le.2 hs_ (Kd.R_base HO_7.out k_ e_.symm)) (fun hn_ => (Kd.fresh' (Kd.R_lt (by (with_reducible repeat (first | apply Kd.R_alloc | apply Kd.R_drewN | apply Kd.R_drew)); exact HO_7.out)) k_ hn_)))) (below_size (by repeat (first | (with_reducible first | exact HB.out | apply below_alloc | apply pw_below_drewN | apply below_drew1) | exact HB.out)))); have n2_ := Aside0.mk (below_step (by repeat (first | (with_reducible first | exact HB.out | apply below_alloc | apply pw_below_drewN | apply below_drew1) | exact HB.out)) hb); clear HO_7; clear HB; have HO_7 := n0_; have HO734 := n1_; have HB := n2_; clear n0_ n1_ n2_; (try clear hb); (try clear hb2); (try clear hk); (try clear hi); (try clear ho0)))
            go_ret
            exact ⟨by first | rfl | (simp [errW_none, errW_some] <;> rfl) | (simp [*, errW_none, errW_some] <;> rfl), by repeat (first | (with_reducible first | exact HB.out | apply below_alloc | apply pw_below_drewN | apply below_drew1) | exact HB.out)⟩
        · rw [if_neg c13] at H
          have c13b0 : decide (t735 < 0) = false := decide_eq_false c13
          clear c13
          by_cases c19 : t727 = x9_5
          · rw [if_pos c19] at H
            have c19b0 : (t727 == x9_5) = true := beq_iff_eq.mpr c19
            have c19b1 : (t727 != x9_5) = false := bne_eq_false_iff_eq.mpr c19
            clear c19
            replace H := Option.bind_eq_some_iff.mp H
            obtain ⟨t737, A200, H⟩ := H
            replace H : (some t737) = some r := H
            have A20 := Aside0.mk A200
            clear A200
            obtain rfl := Option.some.inj H
            go_wp2_with (first | ((with_reducible refine gate_callee (f := 35) rfl ?_); refine goesL_ (some 33) rfl rfl Try.func35 (by kernel_rfl) rfl #[.slice A1 l1.length c1, .slice A2 l2.length c2, .int .i64 200] rfl (by (try simp only [List.map_toArray, List.map_cons, List.map_nil]); first | done | rfl | (simp only [List.length_drop, List.length_take]; rfl)) ?_; (with_reducible refine (codemasonref_Shaped.calls kj5 _ _ l1 (fun k_ => k_ < w.heap.size) _ _ l2 200 t732 t735 _ ?side1 ?side2 ?side3 A12.out).mono ?_); (case side1 => repeat (first | exact (Kd.C_below HR1.out HB.out) | (with_reducible refine Kd.C_alloc ?_ _) | (with_reducible refine Kd.C_drewN ?_ _) | (with_reducible refine Kd.C_drew ?_))); (case side2 => exact HC1.out); (case side3 => exact Kd.V_mk HC2.out (Kd.F_below (Kd.C_F (Kd.heap_int .i64) HR2.out) (by repeat (first | (with_reducible first | exact HB.out | apply below_alloc | apply pw_below_drewN | apply below_drew1) | exact HB.out)))); rintro e w21 ⟨v733, rfl, ho0, hb⟩; refine ⟨_, rfl, ?_⟩; have n0_ := Aside0.mk (Kd.R_below (by (with_reducible repeat (first | apply Kd.R_alloc | apply Kd.R_drewN | apply Kd.R_drew)); exact HO_7.out) hb); have n1_ := Aside0.mk (Kd.V_lower (Kd.V_mono (ok' := fun k_ => some k_ ≠ (v728 : Value).ownBlock) ho0 (fun k_ hk_ => Or.elim hk_ (fun hs_ => fun e_ => Nat.not_le.2 hs_ (Kd.R_base HO_7.out k_ e_.symm)) (fun hn_ => (Kd.fresh' (Kd.R_lt (by (with_reducible repeat (first | apply Kd.R_alloc | apply Kd.R_drewN | apply Kd.R_drew)); exact HO_7.out)) k_ hn_)))) (below_size (by repeat (first | (with_reducible first | exact HB.out | apply below_alloc | apply pw_below_drewN | apply below_drew1) | exact HB.out)))); have n2_ := Aside0.mk (below_step (by repeat (first | (with_reducible first | exact HB.out | apply below_alloc | apply pw_below_drewN | apply below_drew1) | exact HB.out)) hb); clear HO_7; clear HB; have HO_7 := n0_; have HO734 := n1_; have HB := n2_; clear n0_ n1_ n2_; (try clear hb); (try clear hb2); (try clear hk); (try clear hi); (try clear ho0); obtain ⟨Ao22, co22, eo22⟩ := Kd.R_slice HO_7.out; subst eo22; obtain ⟨Ao23, co23, eo23⟩ := Kd.V_slice HO734.out; subst eo23) | (go_at_call 24; (with_reducible refine (codemasonref_Ints.calls kj5 _ _ t726 _ _ t732 t737 _ ?side1 ?side2 ?side3 ?side4 A20.out).mono ?_); (case side1 => repeat (first | exact (Kd.R_reads' HO_7.out).2.2 | (with_reducible refine Kd.C_alloc ?_ _) | (with_reducible refine Kd.C_drewN ?_ _) | (with_reducible refine Kd.C_drew ?_))); (case side2 => exact (Kd.R_reads' HO_7.out).2.1); (case side3 => repeat (first | exact (Kd.V_reads' HO734.out).2.2 | (with_reducible refine Kd.C_alloc ?_ _) | (with_reducible refine Kd.C_drewN ?_ _) | (with_reducible refine Kd.C_drew ?_))); (case side4 => exact (Kd.V_reads' HO734.out).2.1); rintro e w' ⟨rfl, ⟨nd, rfl⟩⟩))
            go_ret
            exact ⟨by first | rfl | (simp [errW_none, errW_some] <;> rfl) | (simp [*, errW_none, errW_some] <;> rfl), by repeat (first | (with_reducible first | exact HB.out | apply below_alloc | apply pw_below_drewN | apply below_drew1) | exact HB.out)⟩
          · rw [if_neg c19] at H
            have c19b0 : (t727 == x9_5) = false := beq_eq_false_iff_ne.mpr c19
            have c19b1 : (t727 != x9_5) = true := bne_iff_ne.mpr c19
            obtain rfl := Option.some.inj H
            go_wp2_with (first | ((with_reducible refine gate_callee (f := 35) rfl ?_); refine goesL_ (some 33) rfl rfl Try.func35 (by kernel_rfl) rfl #[.slice A1 l1.length c1, .slice A2 l2.length c2, .int .i64 200] rfl (by (try simp only [List.map_toArray, List.map_cons, List.map_nil]); first | done | rfl | (simp only [List.length_drop, List.length_take]; rfl)) ?_; (with_reducible refine (codemasonref_Shaped.calls kj5 _ _ l1 (fun k_ => k_ < w.heap.size) _ _ l2 200 t732 t735 _ ?side1 ?side2 ?side3 A12.out).mono ?_); (case side1 => repeat (first | exact (Kd.C_below HR1.out HB.out) | (with_reducible refine Kd.C_alloc ?_ _) | (with_reducible refine Kd.C_drewN ?_ _) | (with_reducible refine Kd.C_drew ?_))); (case side2 => exact HC1.out); (case side3 => exact Kd.V_mk HC2.out (Kd.F_below (Kd.C_F (Kd.heap_int .i64) HR2.out) (by repeat (first | (with_reducible first | exact HB.out | apply below_alloc | apply pw_below_drewN | apply below_drew1) | exact HB.out)))); rintro e w24 ⟨v733, rfl, ho0, hb⟩; refine ⟨_, rfl, ?_⟩; have n0_ := Aside0.mk (Kd.R_below (by (with_reducible repeat (first | apply Kd.R_alloc | apply Kd.R_drewN | apply Kd.R_drew)); exact HO_7.out) hb); have n1_ := Aside0.mk (Kd.V_lower (Kd.V_mono (ok' := fun k_ => some k_ ≠ (v728 : Value).ownBlock) ho0 (fun k_ hk_ => Or.elim hk_ (fun hs_ => fun e_ => Nat.not_le.2 hs_ (Kd.R_base HO_7.out k_ e_.symm)) (fun hn_ => (Kd.fresh' (Kd.R_lt (by (with_reducible repeat (first | apply Kd.R_alloc | apply Kd.R_drewN | apply Kd.R_drew)); exact HO_7.out)) k_ hn_)))) (below_size (by repeat (first | (with_reducible first | exact HB.out | apply below_alloc | apply pw_below_drewN | apply below_drew1) | exact HB.out)))); have n2_ := Aside0.mk (below_step (by repeat (first | (with_reducible first | exact HB.out | apply below_alloc | apply pw_below_drewN | apply below_drew1) | exact HB.out)) hb); clear HO_7; clear HB; have HO_7 := n0_; have HO734 := n1_; have HB := n2_; clear n0_ n1_ n2_; (try clear hb); (try clear hb2); (try clear hk); (try clear hi); (try clear ho0)))
            go_ret
            exact ⟨by first | rfl | (simp [errW_none, errW_some] <;> rfl) | (simp [*, errW_none, errW_some] <;> rfl), by repeat (first | (with_reducible first | exact HB.out | apply below_alloc | apply pw_below_drewN | apply below_drew1) | exact HB.out)⟩
      · rw [if_neg c11] at H
        have c11b0 : (x9_5 == 0) = false := beq_eq_false_iff_ne.mpr c11
        have c11b1 : (x9_5 != 0) = true := bne_iff_ne.mpr c11
        by_cases c25 : t727 = x9_5
        · rw [if_pos c25] at H
          have c25b0 : (t727 == x9_5) = true := beq_iff_eq.mpr c25
          have c25b1 : (t727 != x9_5) = false := bne_eq_false_iff_eq.mpr c25
          clear c25
          replace H := Option.bind_eq_some_iff.mp H
          obtain ⟨t738, A260, H⟩ := H
          replace H : (some t738) = some r := H
          have A26 := Aside0.mk A260
          clear A260
          obtain rfl := Option.some.inj H
          obtain ⟨Ao27, co27, eo27⟩ := Kd.R_slice HO_7.out
          subst eo27
          go_wp2_with (first | (go_at_call 24; (refine (codemasonref_Ints.calls kj5 _ _ t726 _ _ ([] : List Int) t738 _ ?side1 ?side2 ?side3 ?side4 A26.out).mono ?_); (case side1 => repeat (first | exact (Kd.R_reads' HO_7.out).2.2 | (with_reducible refine Kd.C_alloc ?_ _) | (with_reducible refine Kd.C_drewN ?_ _) | (with_reducible refine Kd.C_drew ?_))); (case side2 => exact (Kd.R_reads' HO_7.out).2.1); (case side3 => exact Kd.C_nil _ _); (case side4 => exact Nat.le_refl _); rintro e w' ⟨rfl, ⟨nd, rfl⟩⟩))
          go_ret
          exact ⟨by first | rfl | (simp [errW_none, errW_some] <;> rfl) | (simp [*, errW_none, errW_some] <;> rfl), by repeat (first | (with_reducible first | exact HB.out | apply below_alloc | apply pw_below_drewN | apply below_drew1) | exact HB.out)⟩
        · rw [if_neg c25] at H
          have c25b0 : (t727 == x9_5) = false := beq_eq_false_iff_ne.mpr c25
          have c25b1 : (t727 != x9_5) = true := bne_iff_ne.mpr c25
          obtain rfl := Option.some.inj H
          go_wp2
          go_ret
          exact ⟨by first | rfl | (simp [errW_none, errW_some] <;> rfl) | (simp [*, errW_none, errW_some] <;> rfl), by repeat (first | (with_reducible first | exact HB.out | apply below_alloc | apply pw_below_drewN | apply below_drew1) | exact HB.out)⟩
end Go.Proofs.Ytaicamjpcnhjcaa.PA
