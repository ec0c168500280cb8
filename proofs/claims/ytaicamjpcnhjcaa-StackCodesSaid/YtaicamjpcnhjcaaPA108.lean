/- Contracts, by a program over the translation: the machine's call of a function comes to what its plain Lean function 'f' says. -/
import Derived.Test.YtaicamjpcnhjcaaPA0
import Derived.Test.YtaicamjpcnhjcaaPA52
import Derived.Test.YtaicamjpcnhjcaaPA82
namespace Go.Proofs.Ytaicamjpcnhjcaa.PA
open Go.RowKit Go.Proofs.YtaicamjpcnhjcaaW.PrintWords Go.Proofs.YtaicamjpcnhjcaaW.PrintLast Go.Proofs.YtaicamjpcnhjcaaW.PrintMore
attribute [local go_sem] max2_int min2_int max_two min_two max_three min_three max_four min_four   -- for this text's walks alone
set_option linter.unusedVariables false
set_option linter.unusedSimpArgs false

/-! ### codemasonref_TermsCheck: function 108 -/
mutual
def codemasonref_TermsCheck.j0 : Nat → Int → List (S159) → Bool → Option (Int)
  | 0, _, _, _ => none
  | k + 1, x0, x1, x22 => if x22 = true then (some 1) else (codemasonref_TermsCheck.l0 k x0 x1 (x1.length : Int) 0)
def codemasonref_TermsCheck.l0 : Nat → Int → List (S159) → Int → Int → Option (Int)
  | 0, _, _, _, _ => none
  | k + 1, x0, x23, x24, x25 => if x25 < x24 then (if 0 ≤ x25 then (if x25 < (x23.length : Int) then (if ((rd_T159 x23 x25).f0) < 1 then (codemasonref_TermsCheck.j2 k x0 x25 x23 x24 x25 true ((rd_T159 x23 x25).f0) ((rd_T159 x23 x25).f1) ((rd_T159 x23 x25).f2) ((rd_T159 x23 x25).f3)) else (codemasonref_TermsCheck.j2 k x0 x25 x23 x24 x25 (decide (((rd_T159 x23 x25).f0) > 6)) ((rd_T159 x23 x25).f0) ((rd_T159 x23 x25).f1) ((rd_T159 x23 x25).f2) ((rd_T159 x23 x25).f3))) else (none)) else (none)) else (some 0)
def codemasonref_TermsCheck.j2 : Nat → Int → Int → List (S159) → Int → Int → Bool → Int → Int → Int → Int → Option (Int)
  | 0, _, _, _, _, _, _, _, _, _, _ => none
  | k + 1, x0, x5, x23, x24, x25, x37, x583000, x583001, x583002, x583003 => if x37 = true then (some 6) else (if x583000 = 1 then ((codemasonref_Value.f x583003).bind fun t583 => (if t583 = true then (if x583000 = 2 then ((codemasonref_Inside.f k x0 (([x583003] : List Int))).bind fun t587 => (codemasonref_TermsCheck.j3 k x0 x5 x23 x24 x25 (!t587) x583000 x583001 x583002 x583003)) else (codemasonref_TermsCheck.j3 k x0 x5 x23 x24 x25 false x583000 x583001 x583002 x583003)) else (codemasonref_TermsCheck.j3 k x0 x5 x23 x24 x25 true x583000 x583001 x583002 x583003))) else (if x583000 = 2 then ((codemasonref_Inside.f k x0 (([x583003] : List Int))).bind fun t591 => (codemasonref_TermsCheck.j3 k x0 x5 x23 x24 x25 (!t591) x583000 x583001 x583002 x583003)) else (codemasonref_TermsCheck.j3 k x0 x5 x23 x24 x25 false x583000 x583001 x583002 x583003)))
def codemasonref_TermsCheck.j3 : Nat → Int → Int → List (S159) → Int → Int → Bool → Int → Int → Int → Int → Option (Int)
  | 0, _, _, _, _, _, _, _, _, _, _ => none
  | k + 1, x0, x5, x23, x24, x25, x59, x583000, x583001, x583002, x583003 => if x59 = true then (some 4) else (if x583000 ≥ 3 then ((codemasonref_Inside.f k x5 (([x583001, x583002] : List Int))).bind fun t595 => (if t595 = true then (codemasonref_TermsCheck.l0 k x0 x23 x24 (wrap64 (x25 + 1))) else (some 2))) else (codemasonref_TermsCheck.l0 k x0 x23 x24 (wrap64 (x25 + 1))))
end
def codemasonref_TermsCheck.f (k : Nat) (a0 : Int) (l1 : List (S159)) : Option (Int) := if a0 < 0 then (codemasonref_TermsCheck.j0 k a0 l1 true) else (if a0 > 6 then (codemasonref_TermsCheck.j0 k a0 l1 true) else (if (l1.length : Int) < 1 then (codemasonref_TermsCheck.j0 k a0 l1 true) else (codemasonref_TermsCheck.j0 k a0 l1 (decide ((l1.length : Int) > 16)))))
theorem codemasonref_TermsCheck.mono_l : ∀ k, (∀ y0 y1 y2, LeO (codemasonref_TermsCheck.j0 k y0 y1 y2) (codemasonref_TermsCheck.j0 (k + 1) y0 y1 y2)) ∧ (∀ y0 y1 y2 y3, LeO (codemasonref_TermsCheck.l0 k y0 y1 y2 y3) (codemasonref_TermsCheck.l0 (k + 1) y0 y1 y2 y3)) ∧ (∀ y0 y1 y2 y3 y4 y5 y6 y7 y8 y9, LeO (codemasonref_TermsCheck.j2 k y0 y1 y2 y3 y4 y5 y6 y7 y8 y9) (codemasonref_TermsCheck.j2 (k + 1) y0 y1 y2 y3 y4 y5 y6 y7 y8 y9)) ∧ (∀ y0 y1 y2 y3 y4 y5 y6 y7 y8 y9, LeO (codemasonref_TermsCheck.j3 k y0 y1 y2 y3 y4 y5 y6 y7 y8 y9) (codemasonref_TermsCheck.j3 (k + 1) y0 y1 y2 y3 y4 y5 y6 y7 y8 y9))
  | 0 => ⟨fun _ _ _ r h => by simp [codemasonref_TermsCheck.j0] at h, fun _ _ _ _ r h => by simp [codemasonref_TermsCheck.l0] at h, fun _ _ _ _ _ _ _ _ _ _ r h => by simp [codemasonref_TermsCheck.j2] at h, fun _ _ _ _ _ _ _ _ _ _ r h => by simp [codemasonref_TermsCheck.j3] at h⟩
  | k + 1 => by
    obtain ⟨ih0, ih1, ih2, ih3⟩ := codemasonref_TermsCheck.mono_l k
    refine ⟨?_, ?_, ?_, ?_⟩
    · intro y0 y1 y2
      unfold codemasonref_TermsCheck.j0
      repeat' first
      | (with_reducible exact ih0 _ _ _)
      | (with_reducible exact ih1 _ _ _ _)
      | (with_reducible exact ih2 _ _ _ _ _ _ _ _ _ _)
      | (with_reducible exact ih3 _ _ _ _ _ _ _ _ _ _)
      | (with_reducible exact codemasonref_Inside.mono _ _ _)
      | (with_reducible exact LeO.refl _)
      | (with_reducible exact LeO.none _)
      | (with_reducible refine LeO.ite ?_ ?_)
      | (with_reducible refine LeO.bind ?_ (fun _ => ?_))
      | exact ih0 _ _ _
      | exact ih1 _ _ _ _
      | exact ih2 _ _ _ _ _ _ _ _ _ _
      | exact ih3 _ _ _ _ _ _ _ _ _ _
      | exact codemasonref_Inside.mono _ _ _
      | exact LeO.none _
      | refine LeO.ite ?_ ?_
      | refine LeO.bind ?_ (fun _ => ?_)
    · intro y0 y1 y2 y3
      unfold codemasonref_TermsCheck.l0
      repeat' first
      | (with_reducible exact ih0 _ _ _)
      | (with_reducible exact ih1 _ _ _ _)
      | (with_reducible exact ih2 _ _ _ _ _ _ _ _ _ _)
      | (with_reducible exact ih3 _ _ _ _ _ _ _ _ _ _)
      | (with_reducible exact codemasonref_Inside.mono _ _ _)
      | (with_reducible exact LeO.refl _)
      | (with_reducible exact LeO.none _)
      | (with_reducible refine LeO.ite ?_ ?_)
      | (with_reducible refine LeO.bind ?_ (fun _ => ?_))
      | exact ih0 _ _ _
      | exact ih1 _ _ _ _
      | exact ih2 _ _ _ _ _ _ _ _ _ _
      | exact ih3 _ _ _ _ _ _ _ _ _ _
      | exact codemasonref_Inside.mono _ _ _
      | exact LeO.none _
      | refine LeO.ite ?_ ?_
      | refine LeO.bind ?_ (fun _ => ?_)
    · intro y0 y1 y2 y3 y4 y5 y6 y7 y8 y9
      unfold codemasonref_TermsCheck.j2
      repeat' first
      | (with_reducible exact ih0 _ _ _)
      | (with_reducible exact ih1 _ _ _ _)
      | (with_reducible exact ih2 _ _ _ _ _ _ _ _ _ _)
      | (with_reducible exact ih3 _ _ _ _ _ _ _ _ _ _)
      | (with_reducible exact codemasonref_Inside.mono _ _ _)
      | (with_reducible exact LeO.refl _)
      | (with_reducible exact LeO.none _)
      | (with_reducible refine LeO.ite ?_ ?_)
      | (with_reducible refine LeO.bind ?_ (fun _ => ?_))
      | exact ih0 _ _ _
      | exact ih1 _ _ _ _
      | exact ih2 _ _ _ _ _ _ _ _ _ _
      | exact ih3 _ _ _ _ _ _ _ _ _ _
      | exact codemasonref_Inside.mono _ _ _
      | exact LeO.none _
      | refine LeO.ite ?_ ?_
      | refine LeO.bind ?_ (fun _ => ?_)
    · intro y0 y1 y2 y3 y4 y5 y6 y7 y8 y9
      unfold codemasonref_TermsCheck.j3
      repeat' first
      | (with_reducible exact ih0 _ _ _)
      | (with_reducible exact ih1 _ _ _ _)
      | (with_reducible exact ih2 _ _ _ _ _ _ _ _ _ _)
      | (with_reducible exact ih3 _ _ _ _ _ _ _ _ _ _)
      | (with_reducible exact codemasonref_Inside.mono _ _ _)
      | (with_reducible exact LeO.refl _)
      | (with_reducible exact LeO.none _)
      | (with_reducible refine LeO.ite ?_ ?_)
      | (with_reducible refine LeO.bind ?_ (fun _ => ?_))
      | exact ih0 _ _ _
      | exact ih1 _ _ _ _
      | exact ih2 _ _ _ _ _ _ _ _ _ _
      | exact ih3 _ _ _ _ _ _ _ _ _ _
      | exact codemasonref_Inside.mono _ _ _
      | exact LeO.none _
      | refine LeO.ite ?_ ?_
      | refine LeO.bind ?_ (fun _ => ?_)
theorem codemasonref_TermsCheck.mono : ∀ a0 a1 k, LeO (codemasonref_TermsCheck.f k a0 a1) (codemasonref_TermsCheck.f (k + 1) a0 a1) := by
  intro a0 a1 k
  obtain ⟨ih0, ih1, ih2, ih3⟩ := codemasonref_TermsCheck.mono_l k
  unfold codemasonref_TermsCheck.f
  repeat' first
      | (with_reducible exact ih0 _ _ _)
      | (with_reducible exact ih1 _ _ _ _)
      | (with_reducible exact ih2 _ _ _ _ _ _ _ _ _ _)
      | (with_reducible exact ih3 _ _ _ _ _ _ _ _ _ _)
      | (with_reducible exact codemasonref_Inside.mono _ _ _)
      | (with_reducible exact LeO.refl _)
      | (with_reducible exact LeO.none _)
      | (with_reducible refine LeO.ite ?_ ?_)
      | (with_reducible refine LeO.bind ?_ (fun _ => ?_))
      | exact ih0 _ _ _
      | exact ih1 _ _ _ _
      | exact ih2 _ _ _ _ _ _ _ _ _ _
      | exact ih3 _ _ _ _ _ _ _ _ _ _
      | exact codemasonref_Inside.mono _ _ _
      | exact LeO.none _
      | refine LeO.ite ?_ ?_
      | refine LeO.bind ?_ (fun _ => ?_)
set_option maxHeartbeats 8000000 in
set_option maxRecDepth 100000 in
theorem codemasonref_TermsCheck.calls (k : Nat) (a0 : Int) (A1 : Option Addr) (c1 : Nat) (l1 : List (S159)) (r : Int) (w : World) (hr1 : Kd.C k159 w A1 l1.length l1) (hc1 : l1.length ≤ c1) (h : codemasonref_TermsCheck.f k a0 l1 = some r) :
    Calls Try.prog 108 #[.int .i64 a0, .slice A1 l1.length c1] w fun e w' => e = .returned (.int .i64 r) ∧ Below w.heap.size w w' := by
  have hu159 := Try.underlying159
  have HR1 := Aside0.mk hr1
  have HC1 := Aside0.mk hc1
  clear hr1 hc1
  have HB := Aside0.mk (Below.refl w.heap.size w)
  have H : (if a0 < 0 then (codemasonref_TermsCheck.j0 k a0 l1 true) else (if a0 > 6 then (codemasonref_TermsCheck.j0 k a0 l1 true) else (if (l1.length : Int) < 1 then (codemasonref_TermsCheck.j0 k a0 l1 true) else (codemasonref_TermsCheck.j0 k a0 l1 (decide ((l1.length : Int) > 16)))))) = some r := h
  clear h
  have HC3 := Aside0.mk H
  clear H
  go_enter Try.func108, Try.ntmps108
  go_upto_region 1 with (fail)
  go_cut [22] (fun v22 wc => ∃ (kq : Nat) (x22_2 : Bool), v22 = .bool x22_2 ∧ Aside0 (codemasonref_TermsCheck.j0 kq a0 l1 x22_2 = some r) ∧ Aside0 (kq ≤ k) ∧ Aside0 (Below w.heap.size w wc))
  case first =>
    have H := HC3.out
    clear HC3
    by_cases c4 : a0 < 0
    · rw [if_pos c4] at H
      have c4b0 : decide (a0 < 0) = true := decide_eq_true c4
      clear c4
      (first | rw [c4b0] | (simp only [i64_w, i32_w]; rw [c4b0]) | skip)
      have H' := Aside0.mk H
      clear H
      go_wp2
      go_meet
      case rel => exact ⟨_, (true), (by first | rfl | (simp; done) | (simp [*]; done)), H', ⟨by first | omega | exact Nat.le_refl _⟩, ⟨by repeat (first | (with_reducible first | exact HB.out | apply below_alloc | apply pw_below_drewN | apply below_drew1) | exact HB.out)⟩⟩
    · rw [if_neg c4] at H
      have c4b0 : decide (a0 < 0) = false := decide_eq_false c4
      clear c4
      (first | rw [c4b0] | (simp only [i64_w, i32_w]; rw [c4b0]) | skip)
      by_cases c5 : a0 > 6
      · rw [if_pos c5] at H
        have c5b0 : decide (6 < a0) = true := decide_eq_true c5
        clear c5
        have H' := Aside0.mk H
        clear H
        go_wp2
        go_meet
        case rel => exact ⟨_, (true), (by first | rfl | (simp; done) | (simp [*]; done)), H', ⟨by first | omega | exact Nat.le_refl _⟩, ⟨by repeat (first | (with_reducible first | exact HB.out | apply below_alloc | apply pw_below_drewN | apply below_drew1) | exact HB.out)⟩⟩
      · rw [if_neg c5] at H
        have c5b0 : decide (6 < a0) = false := decide_eq_false c5
        clear c5
        by_cases c6 : (l1.length : Int) < 1
        · rw [if_pos c6] at H
          have c6b0 : decide ((l1.length : Int) < 1) = true := decide_eq_true c6
          have c6b1 : decide (l1.length < 1) = true := decide_eq_true (by omega)
          clear c6
          have H' := Aside0.mk H
          clear H
          go_wp2
          go_meet
          case rel => exact ⟨_, (true), (by first | rfl | (simp; done) | (simp [*]; done)), H', ⟨by first | omega | exact Nat.le_refl _⟩, ⟨by repeat (first | (with_reducible first | exact HB.out | apply below_alloc | apply pw_below_drewN | apply below_drew1) | exact HB.out)⟩⟩
        · rw [if_neg c6] at H
          have c6b0 : decide ((l1.length : Int) < 1) = false := decide_eq_false c6
          have c6b1 : decide (l1.length < 1) = false := decide_eq_false (by omega)
          clear c6
          have H' := Aside0.mk H
          clear H
          go_wp2
          go_meet
          case rel => exact ⟨_, (decide ((l1.length : Int) > 16)), (by first | rfl | (simp; done) | (simp [*]; done)), H', ⟨by first | omega | exact Nat.le_refl _⟩, ⟨by repeat (first | (with_reducible first | exact HB.out | apply below_alloc | apply pw_below_drewN | apply below_drew1) | exact HB.out)⟩⟩
  case rest =>
    clear HC3
    try clear c1
    try clear p2
    try clear c4
    try clear c4b0
    try clear c5
    try clear c5b0
    try clear c6
    try clear c6b0
    try clear c6b1
    obtain ⟨kq, x22_2, rfl, HA, HJ2, HB⟩ := hcut
    cases kq with
    | zero => exact absurd HA.out (by simp [codemasonref_TermsCheck.j0])
    | succ kj2 =>
      have H := HA.out
      clear HA
      simp only [codemasonref_TermsCheck.j0] at H
      by_cases c7 : x22_2 = true
      · subst c7
        have H1 : (some 1) = some r := by rw [if_pos rfl] at H; exact H
        clear H
        have H := H1
        clear H1
        obtain rfl := Option.some.inj H
        go_wp2
        go_ret
        exact ⟨by first | rfl | (simp [errW_none, errW_some] <;> rfl) | (simp [*, errW_none, errW_some] <;> rfl), by repeat (first | (with_reducible first | exact HB.out | apply below_alloc | apply pw_below_drewN | apply below_drew1) | exact HB.out)⟩
      · replace c7 := Bool.eq_false_iff.mpr c7
        subst c7
        have H1 : (codemasonref_TermsCheck.l0 kj2 a0 l1 (l1.length : Int) 0) = some r := by rw [if_neg (show ¬ (false = true) by decide)] at H; exact H
        clear H
        have H := H1
        clear H1
        have H' := Aside0.mk H
        clear H
        go_wp2
        go_loopg [25] kj2 (fun kq v25 w' => ∃ (x25_2 : Int), v25 = .int .i64 x25_2 ∧ Aside0 (codemasonref_TermsCheck.l0 kq a0 l1 (l1.length : Int) x25_2 = some r) ∧ Aside0 (kq ≤ kj2) ∧ Aside0 (Below w.heap.size w w'))
        case atStart => exact ⟨(0), (by first | rfl | (simp; done) | (simp [*]; done)), H', ⟨Nat.le_refl _⟩, ⟨by repeat (first | (with_reducible first | exact HB.out | apply below_alloc | apply pw_below_drewN | apply below_drew1) | exact HB.out)⟩⟩
        case round =>
          clear H'
          try clear c1
          try clear p2
          try clear c4
          try clear c4b0
          try clear c5
          try clear c5b0
          try clear c6
          try clear c6b0
          try clear c6b1
          try clear c7
          try clear p2
          obtain ⟨x25_2, rfl, HA, HK2, HB⟩ := hrel
          cases gk with
          | zero => exact absurd HA.out (by simp [codemasonref_TermsCheck.l0])
          | succ k2 =>
            have H := HA.out
            clear HA
            simp only [codemasonref_TermsCheck.l0] at H
            by_cases c8 : x25_2 < (l1.length : Int)
            · rw [if_pos c8] at H
              have c8b0 : decide (x25_2 < (l1.length : Int)) = true := decide_eq_true c8
              clear c8
              by_cases c9 : 0 ≤ x25_2
              · rw [if_pos c9] at H
                have c9b0 : decide (0 ≤ x25_2) = true := decide_eq_true c9
                clear c9
                by_cases c10 : x25_2 < (l1.length : Int)
                · rw [if_pos c10] at H
                  have c10b0 : decide (x25_2 < (l1.length : Int)) = true := decide_eq_true c10
                  clear c10
                  have HC11 := Aside0.mk H
                  clear H
                  have p581 : 0 ≤ (x25_2 : Int) := of_decide_eq_true (by first | (with_reducible assumption) | assumption)
                  have q581 : x25_2 < (l1.length : Int) := of_decide_eq_true (by first | (with_reducible assumption) | assumption)
                  obtain ⟨ad581, e581, hx581_0, hx581_1, hx581_2, hx581_3⟩ := at_T159 HR1.out x25_2 p581 q581
                  cases e581
                  replace hx581_0 := (HB.out.cell (World.block_lt_of_cell? w _ hx581_0)).trans hx581_0
                  replace hx581_1 := (HB.out.cell (World.block_lt_of_cell? w _ hx581_1)).trans hx581_1
                  replace hx581_2 := (HB.out.cell (World.block_lt_of_cell? w _ hx581_2)).trans hx581_2
                  replace hx581_3 := (HB.out.cell (World.block_lt_of_cell? w _ hx581_3)).trans hx581_3
                  replace p581 := eq_true p581
                  replace q581 := eq_true q581
                  go_upto_region 6 with (first | ((with_reducible refine gate_dst (N := 6) rfl ?_); (try (refine gate_guard (by rfl) ?_; dsimp only)); refine box_event ?hg (N := 6) ?hd (cs := #[.int .i64 0, .int .i64 0, .int .i64 0, .int .i64 0]) (t := 159) ?hr ?_; (case hd => rfl); (case hg => rfl); (case hr => first | (go_simp; done) | (go_simp; rfl)); intro gb582 hg w12 hbox hb; have n0_ := Aside0.mk (below_step (by repeat (first | (with_reducible first | exact HB.out | apply below_alloc | apply pw_below_drewN | apply below_drew1) | exact HB.out)) hb); have n1_ := Aside0.mk (hbox); have n2_ := Aside0.mk ((by rw [hg]; exact (below_size (by repeat (first | (with_reducible first | exact HB.out | apply below_alloc | apply pw_below_drewN | apply below_drew1) | exact HB.out))) : w.heap.size ≤ gb582)); have n3_ := Aside0.mk ((by rw [hg]; exact (below_size (by repeat (first | (with_reducible first | exact HB.out | apply below_alloc | apply pw_below_drewN | apply below_drew1) | exact HB.out))) : w.heap.size ≤ gb582)); clear HB; have HB := n0_; have BK582 := n1_; have GW582 := n2_; have GE582 := n3_; clear n0_ n1_ n2_ n3_; clear hb hbox hg; have hcz13_0 : w12.cell? ⟨gb582, 0, none⟩ = some (.int .i64 0) := (blk_cell BK582.out 0).trans rfl; have hcz13_1 : w12.cell? ⟨gb582, 1, none⟩ = some (.int .i64 0) := (blk_cell BK582.out 1).trans rfl; have hcz13_2 : w12.cell? ⟨gb582, 2, none⟩ = some (.int .i64 0) := (blk_cell BK582.out 2).trans rfl; have hcz13_3 : w12.cell? ⟨gb582, 3, none⟩ = some (.int .i64 0) := (blk_cell BK582.out 3).trans rfl; have hfz13_0 := blk_frozen BK582.out 0; have hfz13_1 := blk_frozen BK582.out 1; have hfz13_2 := blk_frozen BK582.out 2; have hfz13_3 := blk_frozen BK582.out 3))
                  (try simp only [Act.put, List.setIfInBounds_toArray, List.set_cons_zero, List.set_cons_succ])
                  go_cut [37] (fun v37 wc => ∃ (kq : Nat) (x37_10 : Bool), v37 = .bool x37_10 ∧ Aside0 (codemasonref_TermsCheck.j2 kq a0 x25_2 l1 (l1.length : Int) x25_2 x37_10 ((rd_T159 l1 x25_2).f0) ((rd_T159 l1 x25_2).f1) ((rd_T159 l1 x25_2).f2) ((rd_T159 l1 x25_2).f3) = some r) ∧ Aside0 (kq ≤ k2) ∧ Aside0 (wc.heap[gb582]? = some (.cells #[.int .i64 ((rd_T159 l1 x25_2).f0), .int .i64 ((rd_T159 l1 x25_2).f1), .int .i64 ((rd_T159 l1 x25_2).f2), .int .i64 ((rd_T159 l1 x25_2).f3)] 159 (0, 0))) ∧ Aside0 (Below w.heap.size w wc))
                  case first =>
                    have H := HC11.out
                    clear HC11
                    by_cases c14 : ((rd_T159 l1 x25_2).f0) < 1
                    · rw [if_pos c14] at H
                      have c14b0 : decide (((rd_T159 l1 x25_2).f0) < 1) = true := decide_eq_true c14
                      clear c14
                      (first | rw [c14b0] | (simp only [i64_w, i32_w]; rw [c14b0]) | skip)
                      have H' := Aside0.mk H
                      clear H
                      have hcz15_0 : w12.cell? ⟨gb582, 0, none⟩ = some (.int .i64 0) := (blk_cell BK582.out 0).trans rfl
                      have hcz15_1 : w12.cell? ⟨gb582, 1, none⟩ = some (.int .i64 0) := (blk_cell BK582.out 1).trans rfl
                      have hcz15_2 : w12.cell? ⟨gb582, 2, none⟩ = some (.int .i64 0) := (blk_cell BK582.out 2).trans rfl
                      have hcz15_3 : w12.cell? ⟨gb582, 3, none⟩ = some (.int .i64 0) := (blk_cell BK582.out 3).trans rfl
                      have hfz15_0 := blk_frozen BK582.out 0
                      have hfz15_1 := blk_frozen BK582.out 1
                      have hfz15_2 := blk_frozen BK582.out 2
                      have hfz15_3 := blk_frozen BK582.out 3
                      go_wp2
                      go_meet
                      case rel => exact ⟨_, (true), (by first | rfl | (simp; done) | (simp [*]; done)), H', ⟨by have := HJ2.out; have := HK2.out; first | omega | exact Nat.le_refl _⟩, ⟨by (with_reducible repeat (first | refine blk_drewN ?_ _ | refine blk_drew ?_ | refine blk_alloc ?_ _)); refine blk_put (cs := #[.int .i64 ((rd_T159 l1 x25_2).f0), .int .i64 ((rd_T159 l1 x25_2).f1), .int .i64 ((rd_T159 l1 x25_2).f2), .int .i64 0]) ?_ 3 _ rfl; (with_reducible repeat (first | refine blk_drewN ?_ _ | refine blk_drew ?_ | refine blk_alloc ?_ _)); refine blk_put (cs := #[.int .i64 ((rd_T159 l1 x25_2).f0), .int .i64 ((rd_T159 l1 x25_2).f1), .int .i64 0, .int .i64 0]) ?_ 2 _ rfl; (with_reducible repeat (first | refine blk_drewN ?_ _ | refine blk_drew ?_ | refine blk_alloc ?_ _)); refine blk_put (cs := #[.int .i64 ((rd_T159 l1 x25_2).f0), .int .i64 0, .int .i64 0, .int .i64 0]) ?_ 1 _ rfl; (with_reducible repeat (first | refine blk_drewN ?_ _ | refine blk_drew ?_ | refine blk_alloc ?_ _)); refine blk_put (cs := #[.int .i64 0, .int .i64 0, .int .i64 0, .int .i64 0]) ?_ 0 _ rfl; (with_reducible repeat (first | refine blk_drewN ?_ _ | refine blk_drew ?_ | refine blk_alloc ?_ _)); exact BK582.out⟩, ⟨by repeat (first | (with_reducible first | exact HB.out | apply below_alloc | apply pw_below_drewN | apply below_drew1 | refine below_set ?_ GE582.out) | exact HB.out)⟩⟩
                    · rw [if_neg c14] at H
                      have c14b0 : decide (((rd_T159 l1 x25_2).f0) < 1) = false := decide_eq_false c14
                      clear c14
                      (first | rw [c14b0] | (simp only [i64_w, i32_w]; rw [c14b0]) | skip)
                      have H' := Aside0.mk H
                      clear H
                      have hcz16_0 : w12.cell? ⟨gb582, 0, none⟩ = some (.int .i64 0) := (blk_cell BK582.out 0).trans rfl
                      have hcz16_1 : w12.cell? ⟨gb582, 1, none⟩ = some (.int .i64 0) := (blk_cell BK582.out 1).trans rfl
                      have hcz16_2 : w12.cell? ⟨gb582, 2, none⟩ = some (.int .i64 0) := (blk_cell BK582.out 2).trans rfl
                      have hcz16_3 : w12.cell? ⟨gb582, 3, none⟩ = some (.int .i64 0) := (blk_cell BK582.out 3).trans rfl
                      have hfz16_0 := blk_frozen BK582.out 0
                      have hfz16_1 := blk_frozen BK582.out 1
                      have hfz16_2 := blk_frozen BK582.out 2
                      have hfz16_3 := blk_frozen BK582.out 3
                      go_wp2
                      go_meet
                      case rel => exact ⟨_, (decide (((rd_T159 l1 x25_2).f0) > 6)), (by first | rfl | (simp; done) | (simp [*]; done)), H', ⟨by have := HJ2.out; have := HK2.out; first | omega | exact Nat.le_refl _⟩, ⟨by (with_reducible repeat (first | refine blk_drewN ?_ _ | refine blk_drew ?_ | refine blk_alloc ?_ _)); refine blk_put (cs := #[.int .i64 ((rd_T159 l1 x25_2).f0), .int .i64 ((rd_T159 l1 x25_2).f1), .int .i64 ((rd_T159 l1 x25_2).f2), .int .i64 0]) ?_ 3 _ rfl; (with_reducible repeat (first | refine blk_drewN ?_ _ | refine blk_drew ?_ | refine blk_alloc ?_ _)); refine blk_put (cs := #[.int .i64 ((rd_T159 l1 x25_2).f0), .int .i64 ((rd_T159 l1 x25_2).f1), .int .i64 0, .int .i64 0]) ?_ 2 _ rfl; (with_reducible repeat (first | refine blk_drewN ?_ _ | refine blk_drew ?_ | refine blk_alloc ?_ _)); refine blk_put (cs := #[.int .i64 ((rd_T159 l1 x25_2).f0), .int .i64 0, .int .i64 0, .int .i64 0]) ?_ 1 _ rfl; (with_reducible repeat (first | refine blk_drewN ?_ _ | refine blk_drew ?_ | refine blk_alloc ?_ _)); refine blk_put (cs := #[.int .i64 0, .int .i64 0, .int .i64 0, .int .i64 0]) ?_ 0 _ rfl; (with_reducible repeat (first | refine blk_drewN ?_ _ | refine blk_drew ?_ | refine blk_alloc ?_ _)); exact BK582.out⟩, ⟨by repeat (first | (with_reducible first | exact HB.out | apply below_alloc | apply pw_below_drewN | apply below_drew1 | refine below_set ?_ GE582.out) | exact HB.out)⟩⟩
                  case rest =>
                    clear HC11
                    try clear c1
                    try clear p2
                    try clear c4
                    try clear c4b0
                    try clear c5
                    try clear c5b0
                    try clear p5
                    try clear q5
                    try clear hx5
                    try clear c6
                    try clear c6b0
                    try clear c6b1
                    try clear c7
                    try clear c8
                    try clear c8b0
                    try clear c9
                    try clear c9b0
                    try clear c10
                    try clear c10b0
                    try clear c14
                    try clear c14b0
                    try clear hcz13_0
                    try clear hcz13_1
                    try clear hcz13_2
                    try clear hcz13_3
                    try clear hcz15_0
                    try clear hcz15_1
                    try clear hcz15_2
                    try clear hcz15_3
                    try clear hcz16_0
                    try clear hcz16_1
                    try clear hcz16_2
                    try clear hcz16_3
                    try clear hfz13_0
                    try clear hfz13_1
                    try clear hfz13_2
                    try clear hfz13_3
                    try clear hfz15_0
                    try clear hfz15_1
                    try clear hfz15_2
                    try clear hfz15_3
                    try clear hfz16_0
                    try clear hfz16_1
                    try clear hfz16_2
                    try clear hfz16_3
                    try clear hx581_0
                    try clear hx581_1
                    try clear hx581_2
                    try clear hx581_3
                    try clear p2
                    try clear p581
                    try clear q581
                    obtain ⟨kq, x37_10, rfl, HA, HJ10, BK582, HB⟩ := hcut
                    cases kq with
                    | zero => exact absurd HA.out (by simp [codemasonref_TermsCheck.j2])
                    | succ kj10 =>
                      have H := HA.out
                      clear HA
                      simp only [codemasonref_TermsCheck.j2] at H
                      by_cases c17 : x37_10 = true
                      · subst c17
                        have H1 : (some 6) = some r := by rw [if_pos rfl] at H; exact H
                        clear H
                        have H := H1
                        clear H1
                        obtain rfl := Option.some.inj H
                        go_wp2
                        go_ret
                        exact ⟨by first | rfl | (simp [errW_none, errW_some] <;> rfl) | (simp [*, errW_none, errW_some] <;> rfl), by repeat (first | (with_reducible first | exact HB.out | apply below_alloc | apply pw_below_drewN | apply below_drew1 | refine below_set ?_ GE582.out) | exact HB.out)⟩
                      · replace c17 := Bool.eq_false_iff.mpr c17
                        subst c17
                        have H1 : (if ((rd_T159 l1 x25_2).f0) = 1 then ((codemasonref_Value.f ((rd_T159 l1 x25_2).f3)).bind fun t583 => (if t583 = true then (if ((rd_T159 l1 x25_2).f0) = 2 then ((codemasonref_Inside.f kj10 a0 (([((rd_T159 l1 x25_2).f3)] : List Int))).bind fun t587 => (codemasonref_TermsCheck.j3 kj10 a0 x25_2 l1 (l1.length : Int) x25_2 (!t587) ((rd_T159 l1 x25_2).f0) ((rd_T159 l1 x25_2).f1) ((rd_T159 l1 x25_2).f2) ((rd_T159 l1 x25_2).f3))) else (codemasonref_TermsCheck.j3 kj10 a0 x25_2 l1 (l1.length : Int) x25_2 false ((rd_T159 l1 x25_2).f0) ((rd_T159 l1 x25_2).f1) ((rd_T159 l1 x25_2).f2) ((rd_T159 l1 x25_2).f3))) else (codemasonref_TermsCheck.j3 kj10 a0 x25_2 l1 (l1.length : Int) x25_2 true ((rd_T159 l1 x25_2).f0) ((rd_T159 l1 x25_2).f1) ((rd_T159 l1 x25_2).f2) ((rd_T159 l1 x25_2).f3)))) else (if ((rd_T159 l1 x25_2).f0) = 2 then ((codemasonref_Inside.f kj10 a0 (([((rd_T159 l1 x25_2).f3)] : List Int))).bind fun t591 => (codemasonref_TermsCheck.j3 kj10 a0 x25_2 l1 (l1.length : Int) x25_2 (!t591) ((rd_T159 l1 x25_2).f0) ((rd_T159 l1 x25_2).f1) ((rd_T159 l1 x25_2).f2) ((rd_T159 l1 x25_2).f3))) else (codemasonref_TermsCheck.j3 kj10 a0 x25_2 l1 (l1.length : Int) x25_2 false ((rd_T159 l1 x25_2).f0) ((rd_T159 l1 x25_2).f1) ((rd_T159 l1 x25_2).f2) ((rd_T159 l1 x25_2).f3)))) = some r := by rw [if_neg (show ¬ (false = true) by decide)] at H; exact H
                        clear H
                        have H := H1
                        clear H1
                        have HC18 := Aside0.mk H
                        clear H
                        go_upto_region 8 with (fail)
                        go_cut [59] (fun v59 wc => ∃ (kq : Nat) (x59_17 : Bool), v59 = .bool x59_17 ∧ Aside0 (codemasonref_TermsCheck.j3 kq a0 x25_2 l1 (l1.length : Int) x25_2 x59_17 ((rd_T159 l1 x25_2).f0) ((rd_T159 l1 x25_2).f1) ((rd_T159 l1 x25_2).f2) ((rd_T159 l1 x25_2).f3) = some r) ∧ Aside0 (kq ≤ kj10) ∧ Aside0 (wc.heap[gb582]? = some (.cells #[.int .i64 ((rd_T159 l1 x25_2).f0), .int .i64 ((rd_T159 l1 x25_2).f1), .int .i64 ((rd_T159 l1 x25_2).f2), .int .i64 ((rd_T159 l1 x25_2).f3)] 159 (0, 0))) ∧ Aside0 (Below w.heap.size w wc))
                        case first =>
                          have H := HC18.out
                          clear HC18
                          by_cases c19 : ((rd_T159 l1 x25_2).f0) = 1
                          · rw [if_pos c19] at H
                            have c19b0 : (((rd_T159 l1 x25_2).f0) == 1) = true := beq_iff_eq.mpr c19
                            have c19b1 : (((rd_T159 l1 x25_2).f0) != 1) = false := bne_eq_false_iff_eq.mpr c19
                            clear c19
                            (first | rw [c19b0] | (simp only [i64_w, i32_w]; rw [c19b0]) | skip)
                            replace H := Option.bind_eq_some_iff.mp H
                            obtain ⟨t583, A200, H⟩ := H
                            replace H : (if t583 = true then (if ((rd_T159 l1 x25_2).f0) = 2 then ((codemasonref_Inside.f kj10 a0 (([((rd_T159 l1 x25_2).f3)] : List Int))).bind fun t587 => (codemasonref_TermsCheck.j3 kj10 a0 x25_2 l1 (l1.length : Int) x25_2 (!t587) ((rd_T159 l1 x25_2).f0) ((rd_T159 l1 x25_2).f1) ((rd_T159 l1 x25_2).f2) ((rd_T159 l1 x25_2).f3))) else (codemasonref_TermsCheck.j3 kj10 a0 x25_2 l1 (l1.length : Int) x25_2 false ((rd_T159 l1 x25_2).f0) ((rd_T159 l1 x25_2).f1) ((rd_T159 l1 x25_2).f2) ((rd_T159 l1 x25_2).f3))) else (codemasonref_TermsCheck.j3 kj10 a0 x25_2 l1 (l1.length : Int) x25_2 true ((rd_T159 l1 x25_2).f0) ((rd_T159 l1 x25_2).f1) ((rd_T159 l1 x25_2).f2) ((rd_T159 l1 x25_2).f3))) = some r := H
                            have A20 := Aside0.mk A200
                            clear A200
                            by_cases c21 : t583 = true
                            · subst c21
                              have H1 : (if ((rd_T159 l1 x25_2).f0) = 2 then ((codemasonref_Inside.f kj10 a0 (([((rd_T159 l1 x25_2).f3)] : List Int))).bind fun t587 => (codemasonref_TermsCheck.j3 kj10 a0 x25_2 l1 (l1.length : Int) x25_2 (!t587) ((rd_T159 l1 x25_2).f0) ((rd_T159 l1 x25_2).f1) ((rd_T159 l1 x25_2).f2) ((rd_T159 l1 x25_2).f3))) else (codemasonref_TermsCheck.j3 kj10 a0 x25_2 l1 (l1.length : Int) x25_2 false ((rd_T159 l1 x25_2).f0) ((rd_T159 l1 x25_2).f1) ((rd_T159 l1 x25_2).f2) ((rd_T159 l1 x25_2).f3))) = some r := by rw [if_pos rfl] at H; exact H
                              clear H
                              have H := H1
                              clear H1
                              by_cases c22 : ((rd_T159 l1 x25_2).f0) = 2
                              · rw [if_pos c22] at H
                                have c22b0 : (((rd_T159 l1 x25_2).f0) == 2) = true := beq_iff_eq.mpr c22
                                have c22b1 : (((rd_T159 l1 x25_2).f0) != 2) = false := bne_eq_false_iff_eq.mpr c22
                                clear c22
                                obtain ⟨y584, hy584⟩ : ∃ y_ : List Int, y_ = (([((rd_T159 l1 x25_2).f3)] : List Int)) := ⟨_, rfl⟩
                                replace H : ((codemasonref_Inside.f kj10 a0 y584).bind fun t587 => (codemasonref_TermsCheck.j3 kj10 a0 x25_2 l1 (l1.length : Int) x25_2 (!t587) ((rd_T159 l1 x25_2).f0) ((rd_T159 l1 x25_2).f1) ((rd_T159 l1 x25_2).f2) ((rd_T159 l1 x25_2).f3))) = some r := by first | (rw [hy584]; with_reducible exact H) | (have H2_ := (Option.bind_some _ _).symm.trans H; rw [hy584]; with_reducible exact H2_) | (have H2_ := (Option.bind_some _ _).symm.trans H; with_reducible exact H2_) | with_reducible exact H | (rw [hy584]; exact H) | exact H
                                have Ny584 := Aside0.mk hy584
                                clear hy584
                                replace H := Option.bind_eq_some_iff.mp H
                                obtain ⟨t587, A230, H⟩ := H
                                replace H : (codemasonref_TermsCheck.j3 kj10 a0 x25_2 l1 (l1.length : Int) x25_2 (!t587) ((rd_T159 l1 x25_2).f0) ((rd_T159 l1 x25_2).f1) ((rd_T159 l1 x25_2).f2) ((rd_T159 l1 x25_2).f3)) = some r := H
                                have A23 := Aside0.mk A230
                                clear A230
                                have H' := Aside0.mk H
                                clear H
                                have hcz24_0 : wc.cell? ⟨gb582, 0, none⟩ = some (.int .i64 ((rd_T159 l1 x25_2).f0)) := (blk_cell BK582.out 0).trans rfl
                                have hcz24_1 : wc.cell? ⟨gb582, 1, none⟩ = some (.int .i64 ((rd_T159 l1 x25_2).f1)) := (blk_cell BK582.out 1).trans rfl
                                have hcz24_2 : wc.cell? ⟨gb582, 2, none⟩ = some (.int .i64 ((rd_T159 l1 x25_2).f2)) := (blk_cell BK582.out 2).trans rfl
                                have hcz24_3 : wc.cell? ⟨gb582, 3, none⟩ = some (.int .i64 ((rd_T159 l1 x25_2).f3)) := (blk_cell BK582.out 3).trans rfl
                                have hfz24_0 := blk_frozen BK582.out 0
                                have hfz24_1 := blk_frozen BK582.out 1
                                have hfz24_2 := blk_frozen BK582.out 2
                                have hfz24_3 := blk_frozen BK582.out 3
                                go_wp2_with (first | (go_at_call 82; (with_reducible refine (codemasonref_Value.calls ((rd_T159 l1 x25_2).f3) true _ A20.out).mono ?_); rintro e w' ⟨rfl, ⟨nd, rfl⟩⟩) | ((with_reducible refine gate_dst (N := 55) rfl ?_); (try (refine gate_guard (by rfl) ?_; dsimp only)); refine Kd.R_lit (Kd.int .i64) _ 3 ?hg (N := 55) ?hd (xs := ([((rd_T159 l1 x25_2).f3)] : List Int)) (inner := [.int .i64 ((rd_T159 l1 x25_2).f3)]) (ok := fun _ => True) (okp := fun _ => True) ?hr ?hp (fun _ hk => hk) trivial (Below.refl _ _) (Nat.le_refl _) (by simp) ?_; (case hd => rfl); (case hg => rfl); (case hr => first | (go_simp; done) | (go_simp; rfl)); (case hp => exact (Reps.one (show Kd.M (Kd.int .i64) _ _ _ ((rd_T159 l1 x25_2).f3) [.int .i64 ((rd_T159 l1 x25_2).f3)] from rfl) (Reps.none _ _))); intro v585 w25 ho26 hb hg_ hnew_; clear hg_ hnew_; (first | rw [← Ny584.out] at ho26 | (simp only [Int.reduceToNat] at ho26; rw [← Ny584.out] at ho26)); have n0_ := Aside0.mk (Kd.R_lower ho26 (below_size (by repeat (first | (with_reducible first | exact HB.out | apply below_alloc | apply pw_below_drewN | apply below_drew1 | refine below_set ?_ GE582.out) | exact HB.out)))); have n1_ := Aside0.mk (blk_below (g := gb582) (o := .cells #[.int .i64 ((rd_T159 l1 x25_2).f0), .int .i64 ((rd_T159 l1 x25_2).f1), .int .i64 ((rd_T159 l1 x25_2).f2), .int .i64 ((rd_T159 l1 x25_2).f3)] 159 (0, 0)) (by (with_reducible repeat (first | refine blk_drewN ?_ _ | refine blk_drew ?_ | refine blk_alloc ?_ _)); exact BK582.out) hb); have n2_ := Aside0.mk (below_step (by repeat (first | (with_reducible first | exact HB.out | apply below_alloc | apply pw_below_drewN | apply below_drew1 | refine below_set ?_ GE582.out) | exact HB.out)) hb); clear BK582; clear HB; have HO586 := n0_; have BK582 := n1_; have HB := n2_; clear n0_ n1_ n2_; clear hb ho26; obtain ⟨Ao27, co27, eo27⟩ := Kd.R_slice HO586.out; subst eo27) | (go_at_call 52; (with_reducible refine (codemasonref_Inside.calls kj10 a0 _ _ y584 t587 _ ?side1 ?side2 A23.out).mono ?_); (case side1 => repeat (first | exact (Kd.R_reads' HO586.out).2.2 | (with_reducible refine Kd.C_alloc ?_ _) | (with_reducible refine Kd.C_drewN ?_ _) | (with_reducible refine Kd.C_drew ?_))); (case side2 => exact (Kd.R_reads' HO586.out).2.1); rintro e w' ⟨rfl, ⟨nd, rfl⟩⟩))
                                go_meet
                                case rel => exact ⟨_, (!t587), (by first | rfl | (simp; done) | (simp [*]; done)), H', ⟨by have := HJ2.out; have := HK2.out; have := HJ10.out; first | omega | exact Nat.le_refl _⟩, ⟨by (with_reducible repeat (first | refine blk_drewN ?_ _ | refine blk_drew ?_ | refine blk_alloc ?_ _)); exact BK582.out⟩, ⟨by repeat (first | (with_reducible first | exact HB.out | apply below_alloc | apply pw_below_drewN | apply below_drew1 | refine below_set ?_ GE582.out) | exact HB.out)⟩⟩
                              · rw [if_neg c22] at H
                                have c22b0 : (((rd_T159 l1 x25_2).f0) == 2) = false := beq_eq_false_iff_ne.mpr c22
                                have c22b1 : (((rd_T159 l1 x25_2).f0) != 2) = true := bne_iff_ne.mpr c22
                                have H' := Aside0.mk H
                                clear H
                                have hcz28_0 : wc.cell? ⟨gb582, 0, none⟩ = some (.int .i64 ((rd_T159 l1 x25_2).f0)) := (blk_cell BK582.out 0).trans rfl
                                have hcz28_1 : wc.cell? ⟨gb582, 1, none⟩ = some (.int .i64 ((rd_T159 l1 x25_2).f1)) := (blk_cell BK582.out 1).trans rfl
                                have hcz28_2 : wc.cell? ⟨gb582, 2, none⟩ = some (.int .i64 ((rd_T159 l1 x25_2).f2)) := (blk_cell BK582.out 2).trans rfl
                                have hcz28_3 : wc.cell? ⟨gb582, 3, none⟩ = some (.int .i64 ((rd_T159 l1 x25_2).f3)) := (blk_cell BK582.out 3).trans rfl
                                have hfz28_0 := blk_frozen BK582.out 0
                                have hfz28_1 := blk_frozen BK582.out 1
                                have hfz28_2 := blk_frozen BK582.out 2
                                have hfz28_3 := blk_frozen BK582.out 3
                                go_wp2_with (first | (go_at_call 82; (with_reducible refine (codemasonref_Value.calls ((rd_T159 l1 x25_2).f3) true _ A20.out).mono ?_); rintro e w' ⟨rfl, ⟨nd, rfl⟩⟩))
                                go_meet
                                case rel => exact ⟨_, (false), (by first | rfl | (simp; done) | (simp [*]; done)), H', ⟨by have := HJ2.out; have := HK2.out; have := HJ10.out; first | omega | exact Nat.le_refl _⟩, ⟨by (with_reducible repeat (first | refine blk_drewN ?_ _ | refine blk_drew ?_ | refine blk_alloc ?_ _)); exact BK582.out⟩, ⟨by repeat (first | (with_reducible first | exact HB.out | apply below_alloc | apply pw_below_drewN | apply below_drew1 | refine below_set ?_ GE582.out) | exact HB.out)⟩⟩
                            · replace c21 := Bool.eq_false_iff.mpr c21
                              subst c21
                              have H1 : (codemasonref_TermsCheck.j3 kj10 a0 x25_2 l1 (l1.length : Int) x25_2 true ((rd_T159 l1 x25_2).f0) ((rd_T159 l1 x25_2).f1) ((rd_T159 l1 x25_2).f2) ((rd_T159 l1 x25_2).f3)) = some r := by rw [if_neg (show ¬ (false = true) by decide)] at H; exact H
                              clear H
                              have H := H1
                              clear H1
                              have H' := Aside0.mk H
                              clear H
                              have hcz29_0 : wc.cell? ⟨gb582, 0, none⟩ = some (.int .i64 ((rd_T159 l1 x25_2).f0)) := (blk_cell BK582.out 0).trans rfl
                              have hcz29_1 : wc.cell? ⟨gb582, 1, none⟩ = some (.int .i64 ((rd_T159 l1 x25_2).f1)) := (blk_cell BK582.out 1).trans rfl
                              have hcz29_2 : wc.cell? ⟨gb582, 2, none⟩ = some (.int .i64 ((rd_T159 l1 x25_2).f2)) := (blk_cell BK582.out 2).trans rfl
                              have hcz29_3 : wc.cell? ⟨gb582, 3, none⟩ = some (.int .i64 ((rd_T159 l1 x25_2).f3)) := (blk_cell BK582.out 3).trans rfl
                              have hfz29_0 := blk_frozen BK582.out 0
                              have hfz29_1 := blk_frozen BK582.out 1
                              have hfz29_2 := blk_frozen BK582.out 2
                              have hfz29_3 := blk_frozen BK582.out 3
                              go_wp2_with (first | (go_at_call 82; (with_reducible refine (codemasonref_Value.calls ((rd_T159 l1 x25_2).f3) false _ A20.out).mono ?_); rintro e w' ⟨rfl, ⟨nd, rfl⟩⟩))
                              go_meet
                              case rel => exact ⟨_, (true), (by first | rfl | (simp; done) | (simp [*]; done)), H', ⟨by have := HJ2.out; have := HK2.out; have := HJ10.out; first | omega | exact Nat.le_refl _⟩, ⟨by (with_reducible repeat (first | refine blk_drewN ?_ _ | refine blk_drew ?_ | refine blk_alloc ?_ _)); exact BK582.out⟩, ⟨by repeat (first | (with_reducible first | exact HB.out | apply below_alloc | apply pw_below_drewN | apply below_drew1 | refine below_set ?_ GE582.out) | exact HB.out)⟩⟩
                          · rw [if_neg c19] at H
                            have c19b0 : (((rd_T159 l1 x25_2).f0) == 1) = false := beq_eq_false_iff_ne.mpr c19
                            have c19b1 : (((rd_T159 l1 x25_2).f0) != 1) = true := bne_iff_ne.mpr c19
                            (first | rw [c19b0] | (simp only [i64_w, i32_w]; rw [c19b0]) | skip)
                            by_cases c30 : ((rd_T159 l1 x25_2).f0) = 2
                            · rw [if_pos c30] at H
                              have c30b0 : (((rd_T159 l1 x25_2).f0) == 2) = true := beq_iff_eq.mpr c30
                              have c30b1 : (((rd_T159 l1 x25_2).f0) != 2) = false := bne_eq_false_iff_eq.mpr c30
                              clear c30
                              obtain ⟨y588, hy588⟩ : ∃ y_ : List Int, y_ = (([((rd_T159 l1 x25_2).f3)] : List Int)) := ⟨_, rfl⟩
                              replace H : ((codemasonref_Inside.f kj10 a0 y588).bind fun t591 => (codemasonref_TermsCheck.j3 kj10 a0 x25_2 l1 (l1.length : Int) x25_2 (!t591) ((rd_T159 l1 x25_2).f0) ((rd_T159 l1 x25_2).f1) ((rd_T159 l1 x25_2).f2) ((rd_T159 l1 x25_2).f3))) = some r := by first | (rw [hy588]; with_reducible exact H) | (have H2_ := (Option.bind_some _ _).symm.trans H; rw [hy588]; with_reducible exact H2_) | (have H2_ := (Option.bind_some _ _).symm.trans H; with_reducible exact H2_) | with_reducible exact H | (rw [hy588]; exact H) | exact H
                              have Ny588 := Aside0.mk hy588
                              clear hy588
                              replace H := Option.bind_eq_some_iff.mp H
                              obtain ⟨t591, A310, H⟩ := H
                              replace H : (codemasonref_TermsCheck.j3 kj10 a0 x25_2 l1 (l1.length : Int) x25_2 (!t591) ((rd_T159 l1 x25_2).f0) ((rd_T159 l1 x25_2).f1) ((rd_T159 l1 x25_2).f2) ((rd_T159 l1 x25_2).f3)) = some r := H
                              have A31 := Aside0.mk A310
                              clear A310
                              have H' := Aside0.mk H
                              clear H
                              have hcz32_0 : wc.cell? ⟨gb582, 0, none⟩ = some (.int .i64 ((rd_T159 l1 x25_2).f0)) := (blk_cell BK582.out 0).trans rfl
                              have hcz32_1 : wc.cell? ⟨gb582, 1, none⟩ = some (.int .i64 ((rd_T159 l1 x25_2).f1)) := (blk_cell BK582.out 1).trans rfl
                              have hcz32_2 : wc.cell? ⟨gb582, 2, none⟩ = some (.int .i64 ((rd_T159 l1 x25_2).f2)) := (blk_cell BK582.out 2).trans rfl
                              have hcz32_3 : wc.cell? ⟨gb582, 3, none⟩ = some (.int .i64 ((rd_T159 l1 x25_2).f3)) := (blk_cell BK582.out 3).trans rfl
                              have hfz32_0 := blk_frozen BK582.out 0
                              have hfz32_1 := blk_frozen BK582.out 1
                              have hfz32_2 := blk_frozen BK582.out 2
                              have hfz32_3 := blk_frozen BK582.out 3
                              go_wp2_with (first | ((with_reducible refine gate_dst (N := 55) rfl ?_); (try (refine gate_guard (by rfl) ?_; dsimp only)); refine Kd.R_lit (Kd.int .i64) _ 3 ?hg (N := 55) ?hd (xs := ([((rd_T159 l1 x25_2).f3)] : List Int)) (inner := [.int .i64 ((rd_T159 l1 x25_2).f3)]) (ok := fun _ => True) (okp := fun _ => True) ?hr ?hp (fun _ hk => hk) trivial (Below.refl _ _) (Nat.le_refl _) (by simp) ?_; (case hd => rfl); (case hg => rfl); (case hr => first | (go_simp; done) | (go_simp; rfl)); (case hp => exact (Reps.one (show Kd.M (Kd.int .i64) _ _ _ ((rd_T159 l1 x25_2).f3) [.int .i64 ((rd_T159 l1 x25_2).f3)] from rfl) (Reps.none _ _))); intro v589 w33 ho34 hb hg_ hnew_; clear hg_ hnew_; (first | rw [← Ny588.out] at ho34 | (simp only [Int.reduceToNat] at ho34; rw [← Ny588.out] at ho34)); have n0_ := Aside0.mk (Kd.R_lower ho34 (below_size (by repeat (first | (with_reducible first | exact HB.out | apply below_alloc | apply pw_below_drewN | apply below_drew1 | refine below_set ?_ GE582.out) | exact HB.out)))); have n1_ := Aside0.mk (blk_below (g := gb582) (o := .cells #[.int .i64 ((rd_T159 l1 x25_2).f0), .int .i64 ((rd_T159 l1 x25_2).f1), .int .i64 ((rd_T159 l1 x25_2).f2), .int .i64 ((rd_T159 l1 x25_2).f3)] 159 (0, 0)) (by (with_reducible repeat (first | refine blk_drewN ?_ _ | refine blk_drew ?_ | refine blk_alloc ?_ _)); exact BK582.out) hb); have n2_ := Aside0.mk (below_step (by repeat (first | (with_reducible first | exact HB.out | apply below_alloc | apply pw_below_drewN | apply below_drew1 | refine below_set ?_ GE582.out) | exact HB.out)) hb); clear BK582; clear HB; have HO590 := n0_; have BK582 := n1_; have HB := n2_; clear n0_ n1_ n2_; clear hb ho34; obtain ⟨Ao35, co35, eo35⟩ := Kd.R_slice HO590.out; subst eo35) | (go_at_call 52; (with_reducible refine (codemasonref_Inside.calls kj10 a0 _ _ y588 t591 _ ?side1 ?side2 A31.out).mono ?_); (case side1 => repeat (first | exact (Kd.R_reads' HO590.out).2.2 | (with_reducible refine Kd.C_alloc ?_ _) | (with_reducible refine Kd.C_drewN ?_ _) | (with_reducible refine Kd.C_drew ?_))); (case side2 => exact (Kd.R_reads' HO590.out).2.1); rintro e w' ⟨rfl, ⟨nd, rfl⟩⟩))
                              go_meet
                              case rel => exact ⟨_, (!t591), (by first | rfl | (simp; done) | (simp [*]; done)), H', ⟨by have := HJ2.out; have := HK2.out; have := HJ10.out; first | omega | exact Nat.le_refl _⟩, ⟨by (with_reducible repeat (first | refine blk_drewN ?_ _ | refine blk_drew ?_ | refine blk_alloc ?_ _)); exact BK582.out⟩, ⟨by repeat (first | (with_reducible first | exact HB.out | apply below_alloc | apply pw_below_drewN | apply below_drew1 | refine below_set ?_ GE582.out) | exact HB.out)⟩⟩
                            · rw [if_neg c30] at H
                              have c30b0 : (((rd_T159 l1 x25_2).f0) == 2) = false := beq_eq_false_iff_ne.mpr c30
                              have c30b1 : (((rd_T159 l1 x25_2).f0) != 2) = true := bne_iff_ne.mpr c30
                              have H' := Aside0.mk H
                              clear H
                              have hcz36_0 : wc.cell? ⟨gb582, 0, none⟩ = some (.int .i64 ((rd_T159 l1 x25_2).f0)) := (blk_cell BK582.out 0).trans rfl
                              have hcz36_1 : wc.cell? ⟨gb582, 1, none⟩ = some (.int .i64 ((rd_T159 l1 x25_2).f1)) := (blk_cell BK582.out 1).trans rfl
                              have hcz36_2 : wc.cell? ⟨gb582, 2, none⟩ = some (.int .i64 ((rd_T159 l1 x25_2).f2)) := (blk_cell BK582.out 2).trans rfl
                              have hcz36_3 : wc.cell? ⟨gb582, 3, none⟩ = some (.int .i64 ((rd_T159 l1 x25_2).f3)) := (blk_cell BK582.out 3).trans rfl
                              have hfz36_0 := blk_frozen BK582.out 0
                              have hfz36_1 := blk_frozen BK582.out 1
                              have hfz36_2 := blk_frozen BK582.out 2
                              have hfz36_3 := blk_frozen BK582.out 3
                              go_wp2
                              go_meet
                              case rel => exact ⟨_, (false), (by first | rfl | (simp; done) | (simp [*]; done)), H', ⟨by have := HJ2.out; have := HK2.out; have := HJ10.out; first | omega | exact Nat.le_refl _⟩, ⟨by (with_reducible repeat (first | refine blk_drewN ?_ _ | refine blk_drew ?_ | refine blk_alloc ?_ _)); exact BK582.out⟩, ⟨by repeat (first | (with_reducible first | exact HB.out | apply below_alloc | apply pw_below_drewN | apply below_drew1 | refine below_set ?_ GE582.out) | exact HB.out)⟩⟩
                        case rest =>
                          clear HC18
                          try clear c1
                          try clear c2
                          try clear p2
                          try clear c3
                          try clear c4
                          try clear c4b0
                          try clear c5
                          try clear c5b0
                          try clear p5
                          try clear q5
                          try clear hx5
                          try clear c6
                          try clear c6b0
                          try clear c6b1
                          try clear c7
                          try clear c8
                          try clear c8b0
                          try clear c9
                          try clear c9b0
                          try clear c10
                          try clear c10b0
                          try clear c14
                          try clear c14b0
                          try clear c17
                          try clear c19
                          try clear c19b0
                          try clear c19b1
                          try clear c21
                          try clear c22
                          try clear c22b0
                          try clear c22b1
                          try clear c30
                          try clear c30b0
                          try clear c30b1
                          try clear hcz13_0
                          try clear hcz13_1
                          try clear hcz13_2
                          try clear hcz13_3
                          try clear hcz15_0
                          try clear hcz15_1
                          try clear hcz15_2
                          try clear hcz15_3
                          try clear hcz16_0
                          try clear hcz16_1
                          try clear hcz16_2
                          try clear hcz16_3
                          try clear hcz24_0
                          try clear hcz24_1
                          try clear hcz24_2
                          try clear hcz24_3
                          try clear hcz28_0
                          try clear hcz28_1
                          try clear hcz28_2
                          try clear hcz28_3
                          try clear hcz29_0
                          try clear hcz29_1
                          try clear hcz29_2
                          try clear hcz29_3
                          try clear hcz32_0
                          try clear hcz32_1
                          try clear hcz32_2
                          try clear hcz32_3
                          try clear hcz36_0
                          try clear hcz36_1
                          try clear hcz36_2
                          try clear hcz36_3
                          try clear hfz13_0
                          try clear hfz13_1
                          try clear hfz13_2
                          try clear hfz13_3
                          try clear hfz15_0
                          try clear hfz15_1
                          try clear hfz15_2
                          try clear hfz15_3
                          try clear hfz16_0
                          try clear hfz16_1
                          try clear hfz16_2
                          try clear hfz16_3
                          try clear hfz24_0
                          try clear hfz24_1
                          try clear hfz24_2
                          try clear hfz24_3
                          try clear hfz28_0
                          try clear hfz28_1
                          try clear hfz28_2
                          try clear hfz28_3
                          try clear hfz29_0
                          try clear hfz29_1
                          try clear hfz29_2
                          try clear hfz29_3
                          try clear hfz32_0
                          try clear hfz32_1
                          try clear hfz32_2
                          try clear hfz32_3
                          try clear hfz36_0
                          try clear hfz36_1
                          try clear hfz36_2
                          try clear hfz36_3
                          try clear hx581_0
                          try clear hx581_1
                          try clear hx581_2
                          try clear hx581_3
                          try clear p2
                          try clear p5
                          try clear p581
                          try clear q5
                          try clear q581
                          obtain ⟨kq, x59_17, rfl, HA, HJ17, BK582, HB⟩ := hcut
                          cases kq with
                          | zero => exact absurd HA.out (by simp [codemasonref_TermsCheck.j3])
                          | succ kj17 =>
                            have H := HA.out
                            clear HA
                            simp only [codemasonref_TermsCheck.j3] at H
                            by_cases c37 : x59_17 = true
                            · subst c37
                              have H1 : (some 4) = some r := by rw [if_pos rfl] at H; exact H
                              clear H
                              have H := H1
                              clear H1
                              obtain rfl := Option.some.inj H
                              go_wp2
                              go_ret
                              exact ⟨by first | rfl | (simp [errW_none, errW_some] <;> rfl) | (simp [*, errW_none, errW_some] <;> rfl), by repeat (first | (with_reducible first | exact HB.out | apply below_alloc | apply pw_below_drewN | apply below_drew1 | refine below_set ?_ GE582.out) | exact HB.out)⟩
                            · replace c37 := Bool.eq_false_iff.mpr c37
                              subst c37
                              have H1 : (if ((rd_T159 l1 x25_2).f0) ≥ 3 then ((codemasonref_Inside.f kj17 x25_2 (([((rd_T159 l1 x25_2).f1), ((rd_T159 l1 x25_2).f2)] : List Int))).bind fun t595 => (if t595 = true then (codemasonref_TermsCheck.l0 kj17 a0 l1 (l1.length : Int) (wrap64 (x25_2 + 1))) else (some 2))) else (codemasonref_TermsCheck.l0 kj17 a0 l1 (l1.length : Int) (wrap64 (x25_2 + 1)))) = some r := by rw [if_neg (show ¬ (false = true) by decide)] at H; exact H
                              clear H
                              have H := H1
                              clear H1
                              by_cases c38 : ((rd_T159 l1 x25_2).f0) ≥ 3
                              · rw [if_pos c38] at H
                                have c38b0 : decide (3 ≤ ((rd_T159 l1 x25_2).f0)) = true := decide_eq_true c38
                                clear c38
                                obtain ⟨y592, hy592⟩ : ∃ y_ : List Int, y_ = (([((rd_T159 l1 x25_2).f1), ((rd_T159 l1 x25_2).f2)] : List Int)) := ⟨_, rfl⟩
                                replace H : ((codemasonref_Inside.f kj17 x25_2 y592).bind fun t595 => (if t595 = true then (codemasonref_TermsCheck.l0 kj17 a0 l1 (l1.length : Int) (wrap64 (x25_2 + 1))) else (some 2))) = some r := by first | (rw [hy592]; with_reducible exact H) | (have H2_ := (Option.bind_some _ _).symm.trans H; rw [hy592]; with_reducible exact H2_) | (have H2_ := (Option.bind_some _ _).symm.trans H; with_reducible exact H2_) | with_reducible exact H | (rw [hy592]; exact H) | exact H
                                have Ny592 := Aside0.mk hy592
                                clear hy592
                                replace H := Option.bind_eq_some_iff.mp H
                                obtain ⟨t595, A390, H⟩ := H
                                replace H : (if t595 = true then (codemasonref_TermsCheck.l0 kj17 a0 l1 (l1.length : Int) (wrap64 (x25_2 + 1))) else (some 2)) = some r := H
                                have A39 := Aside0.mk A390
                                clear A390
                                by_cases c40 : t595 = true
                                · subst c40
                                  have H1 : (codemasonref_TermsCheck.l0 kj17 a0 l1 (l1.length : Int) (wrap64 (x25_2 + 1))) = some r := by rw [if_pos rfl] at H; exact H
                                  clear H
                                  have H := H1
                                  clear H1
                                  have H' := Aside0.mk H
                                  clear H
                                  have hcz41_0 : wc.cell? ⟨gb582, 0, none⟩ = some (.int .i64 ((rd_T159 l1 x25_2).f0)) := (blk_cell BK582.out 0).trans rfl
                                  have hcz41_1 : wc.cell? ⟨gb582, 1, none⟩ = some (.int .i64 ((rd_T159 l1 x25_2).f1)) := (blk_cell BK582.out 1).trans rfl
                                  have hcz41_2 : wc.cell? ⟨gb582, 2, none⟩ = some (.int .i64 ((rd_T159 l1 x25_2).f2)) := (blk_cell BK582.out 2).trans rfl
                                  have hcz41_3 : wc.cell? ⟨gb582, 3, none⟩ = some (.int .i64 ((rd_T159 l1 x25_2).f3)) := (blk_cell BK582.out 3).trans rfl
                                  have hfz41_0 := blk_frozen BK582.out 0
                                  have hfz41_1 := blk_frozen BK582.out 1
                                  have hfz41_2 := blk_frozen BK582.out 2
                                  have hfz41_3 := blk_frozen BK582.out 3
                                  go_wp2_with (first | ((with_reducible refine gate_dst (N := 69) rfl ?_); (try (refine gate_guard (by rfl) ?_; dsimp only)); refine Kd.R_lit (Kd.int .i64) _ 3 ?hg (N := 69) ?hd (xs := ([((rd_T159 l1 x25_2).f1), ((rd_T159 l1 x25_2).f2)] : List Int)) (inner := [.int .i64 ((rd_T159 l1 x25_2).f1), .int .i64 ((rd_T159 l1 x25_2).f2)]) (ok := fun _ => True) (okp := fun _ => True) ?hr ?hp (fun _ hk => hk) trivial (Below.refl _ _) (Nat.le_refl _) (by simp) ?_; (case hd => rfl); (case hg => rfl); (case hr => first | (go_simp; done) | (go_simp; rfl)); (case hp => exact (Reps.one (show Kd.M (Kd.int .i64) _ _ _ ((rd_T159 l1 x25_2).f1) [.int .i64 ((rd_T159 l1 x25_2).f1)] from rfl) (Reps.one (show Kd.M (Kd.int .i64) _ _ _ ((rd_T159 l1 x25_2).f2) [.int .i64 ((rd_T159 l1 x25_2).f2)] from rfl) (Reps.none _ _)))); intro v593 w42 ho43 hb hg_ hnew_; clear hg_ hnew_; (first | rw [← Ny592.out] at ho43 | (simp only [Int.reduceToNat] at ho43; rw [← Ny592.out] at ho43)); have n0_ := Aside0.mk (Kd.R_lower ho43 (below_size (by repeat (first | (with_reducible first | exact HB.out | apply below_alloc | apply pw_below_drewN | apply below_drew1 | refine below_set ?_ GE582.out) | exact HB.out)))); have n1_ := Aside0.mk (blk_below (g := gb582) (o := .cells #[.int .i64 ((rd_T159 l1 x25_2).f0), .int .i64 ((rd_T159 l1 x25_2).f1), .int .i64 ((rd_T159 l1 x25_2).f2), .int .i64 ((rd_T159 l1 x25_2).f3)] 159 (0, 0)) (by (with_reducible repeat (first | refine blk_drewN ?_ _ | refine blk_drew ?_ | refine blk_alloc ?_ _)); exact BK582.out) hb); have n2_ := Aside0.mk (below_step (by repeat (first | (with_reducible first | exact HB.out | apply below_alloc | apply pw_below_drewN | apply below_drew1 | refine below_set ?_ GE582.out) | exact HB.out)) hb); clear BK582; clear HB; have HO594 := n0_; have BK582 := n1_; have HB := n2_; clear n0_ n1_ n2_; clear hb ho43; obtain ⟨Ao44, co44, eo44⟩ := Kd.R_slice HO594.out; subst eo44) | (go_at_call 52; (with_reducible refine (codemasonref_Inside.calls kj17 x25_2 _ _ y592 true _ ?side1 ?side2 A39.out).mono ?_); (case side1 => repeat (first | exact (Kd.R_reads' HO594.out).2.2 | (with_reducible refine Kd.C_alloc ?_ _) | (with_reducible refine Kd.C_drewN ?_ _) | (with_reducible refine Kd.C_drew ?_))); (case side2 => exact (Kd.R_reads' HO594.out).2.1); rintro e w' ⟨rfl, ⟨nd, rfl⟩⟩))
                                  go_roundg kj17
                                  case measure => have := HJ2.out; have := HK2.out; have := HJ10.out; have := HJ17.out; omega
                                  case rel => exact ⟨(wrap64 (x25_2 + 1)), (by first | rfl | (simp; done) | (simp [*]; done)), H', ⟨by have := HJ2.out; have := HK2.out; have := HJ10.out; have := HJ17.out; omega⟩, ⟨by repeat (first | (with_reducible first | exact HB.out | apply below_alloc | apply pw_below_drewN | apply below_drew1 | refine below_set ?_ GE582.out) | exact HB.out)⟩⟩
                                · replace c40 := Bool.eq_false_iff.mpr c40
                                  subst c40
                                  have H1 : (some 2) = some r := by rw [if_neg (show ¬ (false = true) by decide)] at H; exact H
                                  clear H
                                  have H := H1
                                  clear H1
                                  obtain rfl := Option.some.inj H
                                  have hcz45_0 : wc.cell? ⟨gb582, 0, none⟩ = some (.int .i64 ((rd_T159 l1 x25_2).f0)) := (blk_cell BK582.out 0).trans rfl
                                  have hcz45_1 : wc.cell? ⟨gb582, 1, none⟩ = some (.int .i64 ((rd_T159 l1 x25_2).f1)) := (blk_cell BK582.out 1).trans rfl
                                  have hcz45_2 : wc.cell? ⟨gb582, 2, none⟩ = some (.int .i64 ((rd_T159 l1 x25_2).f2)) := (blk_cell BK582.out 2).trans rfl
                                  have hcz45_3 : wc.cell? ⟨gb582, 3, none⟩ = some (.int .i64 ((rd_T159 l1 x25_2).f3)) := (blk_cell BK582.out 3).trans rfl
                                  have hfz45_0 := blk_frozen BK582.out 0
                                  have hfz45_1 := blk_frozen BK582.out 1
                                  have hfz45_2 := blk_frozen BK582.out 2
                                  have hfz45_3 := blk_frozen BK582.out 3
                                  go_wp2_with (first | ((with_reducible refine gate_dst (N := 69) rfl ?_); (try (refine gate_guard (by rfl) ?_; dsimp only)); refine Kd.R_lit (Kd.int .i64) _ 3 ?hg (N := 69) ?hd (xs := ([((rd_T159 l1 x25_2).f1), ((rd_T159 l1 x25_2).f2)] : List Int)) (inner := [.int .i64 ((rd_T159 l1 x25_2).f1), .int .i64 ((rd_T159 l1 x25_2).f2)]) (ok := fun _ => True) (okp := fun _ => True) ?hr ?hp (fun _ hk => hk) trivial (Below.refl _ _) (Nat.le_refl _) (by simp) ?_; (case hd => rfl); (case hg => rfl); (case hr => first | (go_simp; done) | (go_simp; rfl)); (case hp => exact (Reps.one (show Kd.M (Kd.int .i64) _ _ _ ((rd_T159 l1 x25_2).f1) [.int .i64 ((rd_T159 l1 x25_2).f1)] from rfl) (Reps.one (show Kd.M (Kd.int .i64) _ _ _ ((rd_T159 l1 x25_2).f2) [.int .i64 ((rd_T159 l1 x25_2).f2)] from rfl) (Reps.none _ _)))); intro v593 w46 ho47 hb hg_ hnew_; clear hg_ hnew_; (first | rw [← Ny592.out] at ho47 | (simp only [Int.reduceToNat] at ho47; rw [← Ny592.out] at ho47)); have n0_ := Aside0.mk (Kd.R_lower ho47 (below_size (by repeat (first | (with_reducible first | exact HB.out | apply below_alloc | apply pw_below_drewN | apply below_drew1 | refine below_set ?_ GE582.out) | exact HB.out)))); have n1_ := Aside0.mk (blk_below (g := gb582) (o := .cells #[.int .i64 ((rd_T159 l1 x25_2).f0), .int .i64 ((rd_T159 l1 x25_2).f1), .int .i64 ((rd_T159 l1 x25_2).f2), .int .i64 ((rd_T159 l1 x25_2).f3)] 159 (0, 0)) (by (with_reducible repeat (first | refine blk_drewN ?_ _ | refine blk_drew ?_ | refine blk_alloc ?_ _)); exact BK582.out) hb); have n2_ := Aside0.mk (below_step (by repeat (first | (with_reducible first | exact HB.out | apply below_alloc | apply pw_below_drewN | apply below_drew1 | refine below_set ?_ GE582.out) | exact HB.out)) hb); clear BK582; clear HB; have HO594 := n0_; have BK582 := n1_; have HB := n2_; clear n0_ n1_ n2_; clear hb ho47; obtain ⟨Ao48, co48, eo48⟩ := Kd.R_slice HO594.out; subst eo48) | (go_at_call 52; (with_reducible refine (codemasonref_Inside.calls kj17 x25_2 _ _ y592 false _ ?side1 ?side2 A39.out).mono ?_); (case side1 => repeat (first | exact (Kd.R_reads' HO594.out).2.2 | (with_reducible refine Kd.C_alloc ?_ _) | (with_reducible refine Kd.C_drewN ?_ _) | (with_reducible refine Kd.C_drew ?_))); (case side2 => exact (Kd.R_reads' HO594.out).2.1); rintro e w' ⟨rfl, ⟨nd, rfl⟩⟩))
                                  go_ret
                                  exact ⟨by first | rfl | (simp [errW_none, errW_some] <;> rfl) | (simp [*, errW_none, errW_some] <;> rfl), by repeat (first | (with_reducible first | exact HB.out | apply below_alloc | apply pw_below_drewN | apply below_drew1 | refine below_set ?_ GE582.out) | exact HB.out)⟩
                              · rw [if_neg c38] at H
                                have c38b0 : decide (3 ≤ ((rd_T159 l1 x25_2).f0)) = false := decide_eq_false c38
                                clear c38
                                have H' := Aside0.mk H
                                clear H
                                have hcz49_0 : wc.cell? ⟨gb582, 0, none⟩ = some (.int .i64 ((rd_T159 l1 x25_2).f0)) := (blk_cell BK582.out 0).trans rfl
                                have hcz49_1 : wc.cell? ⟨gb582, 1, none⟩ = some (.int .i64 ((rd_T159 l1 x25_2).f1)) := (blk_cell BK582.out 1).trans rfl
                                have hcz49_2 : wc.cell? ⟨gb582, 2, none⟩ = some (.int .i64 ((rd_T159 l1 x25_2).f2)) := (blk_cell BK582.out 2).trans rfl
                                have hcz49_3 : wc.cell? ⟨gb582, 3, none⟩ = some (.int .i64 ((rd_T159 l1 x25_2).f3)) := (blk_cell BK582.out 3).trans rfl
                                have hfz49_0 := blk_frozen BK582.out 0
                                have hfz49_1 := blk_frozen BK582.out 1
                                have hfz49_2 := blk_frozen BK582.out 2
                                have hfz49_3 := blk_frozen BK582.out 3
                                go_wp2
                                go_roundg kj17
                                case measure => have := HJ2.out; have := HK2.out; have := HJ10.out; have := HJ17.out; omega
                                case rel => exact ⟨(wrap64 (x25_2 + 1)), (by first | rfl | (simp; done) | (simp [*]; done)), H', ⟨by have := HJ2.out; have := HK2.out; have := HJ10.out; have := HJ17.out; omega⟩, ⟨by repeat (first | (with_reducible first | exact HB.out | apply below_alloc | apply pw_below_drewN | apply below_drew1 | refine below_set ?_ GE582.out) | exact HB.out)⟩⟩
                · rw [if_neg c10] at H
                  exact absurd H (by simp)
              · rw [if_neg c9] at H
                exact absurd H (by simp)
            · rw [if_neg c8] at H
              have c8b0 : decide (x25_2 < (l1.length : Int)) = false := decide_eq_false c8
              clear c8
              obtain rfl := Option.some.inj H
              go_wp2
              go_ret
              exact ⟨by first | rfl | (simp [errW_none, errW_some] <;> rfl) | (simp [*, errW_none, errW_some] <;> rfl), by repeat (first | (with_reducible first | exact HB.out | apply below_alloc | apply pw_below_drewN | apply below_drew1) | exact HB.out)⟩

end Go.Proofs.Ytaicamjpcnhjcaa.PA
