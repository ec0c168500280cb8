/- Contracts, by a program over the translation: the machine's call of a function comes to what its plain Lean function 'f' says. -/
import Derived.Test.YtaicamjpcnhjcaaPA0
namespace Go.Proofs.Ytaicamjpcnhjcaa.PA
open Go.RowKit Go.Proofs.YtaicamjpcnhjcaaW.PrintWords Go.Proofs.YtaicamjpcnhjcaaW.PrintLast Go.Proofs.YtaicamjpcnhjcaaW.PrintMore
attribute [local go_sem] max2_int min2_int max_two min_two max_three min_three max_four min_four   -- for this text's walks alone
set_option linter.unusedVariables false
set_option linter.unusedSimpArgs false

/-! ### term_Check: function 178 -/
mutual
def term_Check.j0 : Nat → Int → List (S159) → Bool → Option (Int)
  | 0, _, _, _ => none
  | k + 1, x0, x1, x22 => if x22 = true then (some 1) else (term_Check.l0 k x0 x1 (x1.length : Int) 0)
def term_Check.l0 : Nat → Int → List (S159) → Int → Int → Option (Int)
  | 0, _, _, _, _ => none
  | k + 1, x0, x23, x24, x25 => if x25 < x24 then (if 0 ≤ x25 then (if x25 < (x23.length : Int) then (if ((rd_T159 x23 x25).f0) < 1 then (term_Check.j2 k x0 x25 x23 x24 x25 true ((rd_T159 x23 x25).f0) ((rd_T159 x23 x25).f1) ((rd_T159 x23 x25).f2) ((rd_T159 x23 x25).f3)) else (term_Check.j2 k x0 x25 x23 x24 x25 (decide (((rd_T159 x23 x25).f0) > 6)) ((rd_T159 x23 x25).f0) ((rd_T159 x23 x25).f1) ((rd_T159 x23 x25).f2) ((rd_T159 x23 x25).f3))) else (none)) else (none)) else (some 0)
def term_Check.j2 : Nat → Int → Int → List (S159) → Int → Int → Bool → Int → Int → Int → Int → Option (Int)
  | 0, _, _, _, _, _, _, _, _, _, _ => none
  | k + 1, x0, x5, x23, x24, x25, x30, x551000, x551001, x551002, x551003 => if x30 = true then (some 6) else (if x551000 = 1 then (if x551003 < 0 then (term_Check.j3 k x0 x5 x23 x24 x25 true x551000 x551001 x551002 x551003) else (term_Check.j3 k x0 x5 x23 x24 x25 (decide (x551003 > 255)) x551000 x551001 x551002 x551003)) else (term_Check.j3 k x0 x5 x23 x24 x25 false x551000 x551001 x551002 x551003))
def term_Check.j3 : Nat → Int → Int → List (S159) → Int → Int → Bool → Int → Int → Int → Int → Option (Int)
  | 0, _, _, _, _, _, _, _, _, _, _ => none
  | k + 1, x0, x5, x23, x24, x25, x39, x551000, x551001, x551002, x551003 => if x39 = true then (term_Check.j4 k x0 x5 x23 x24 x25 x39 x551000 x551001 x551002 x551003) else (if x551000 = 2 then (if x551003 < 0 then (term_Check.j4 k x0 x5 x23 x24 x25 true x551000 x551001 x551002 x551003) else (term_Check.j4 k x0 x5 x23 x24 x25 (decide (x551003 ≥ x0)) x551000 x551001 x551002 x551003)) else (term_Check.j4 k x0 x5 x23 x24 x25 false x551000 x551001 x551002 x551003))
def term_Check.j4 : Nat → Int → Int → List (S159) → Int → Int → Bool → Int → Int → Int → Int → Option (Int)
  | 0, _, _, _, _, _, _, _, _, _, _ => none
  | k + 1, x0, x5, x23, x24, x25, x39, x551000, x551001, x551002, x551003 => if x39 = true then (some 4) else (if x551000 > 2 then (if (mn x551001 x551002) < 0 then (some 2) else (if (mx x551001 x551002) ≥ x5 then (some 2) else (term_Check.l0 k x0 x23 x24 (wrap64 (x25 + 1))))) else (term_Check.l0 k x0 x23 x24 (wrap64 (x25 + 1))))
end
def term_Check.f (k : Nat) (a0 : Int) (l1 : List (S159)) : Option (Int) := if a0 < 0 then (term_Check.j0 k a0 l1 true) else (if a0 > 6 then (term_Check.j0 k a0 l1 true) else (if (l1.length : Int) = 0 then (term_Check.j0 k a0 l1 true) else (term_Check.j0 k a0 l1 (decide ((l1.length : Int) > 16)))))
theorem term_Check.mono_l : ∀ k, (∀ y0 y1 y2, LeO (term_Check.j0 k y0 y1 y2) (term_Check.j0 (k + 1) y0 y1 y2)) ∧ (∀ y0 y1 y2 y3, LeO (term_Check.l0 k y0 y1 y2 y3) (term_Check.l0 (k + 1) y0 y1 y2 y3)) ∧ (∀ y0 y1 y2 y3 y4 y5 y6 y7 y8 y9, LeO (term_Check.j2 k y0 y1 y2 y3 y4 y5 y6 y7 y8 y9) (term_Check.j2 (k + 1) y0 y1 y2 y3 y4 y5 y6 y7 y8 y9)) ∧ (∀ y0 y1 y2 y3 y4 y5 y6 y7 y8 y9, LeO (term_Check.j3 k y0 y1 y2 y3 y4 y5 y6 y7 y8 y9) (term_Check.j3 (k + 1) y0 y1 y2 y3 y4 y5 y6 y7 y8 y9)) ∧ (∀ y0 y1 y2 y3 y4 y5 y6 y7 y8 y9, LeO (term_Check.j4 k y0 y1 y2 y3 y4 y5 y6 y7 y8 y9) (term_Check.j4 (k + 1) y0 y1 y2 y3 y4 y5 y6 y7 y8 y9))
  | 0 => ⟨fun _ _ _ r h => by simp [term_Check.j0] at h, fun _ _ _ _ r h => by simp [term_Check.l0] at h, fun _ _ _ _ _ _ _ _ _ _ r h => by simp [term_Check.j2] at h, fun _ _ _ _ _ _ _ _ _ _ r h => by simp [term_Check.j3] at h, fun _ _ _ _ _ _ _ _ _ _ r h => by simp [term_Check.j4] at h⟩
  | k + 1 => by
    obtain ⟨ih0, ih1, ih2, ih3, ih4⟩ := term_Check.mono_l k
    refine ⟨?_, ?_, ?_, ?_, ?_⟩
    · intro y0 y1 y2
      unfold term_Check.j0
      repeat' first
      | (with_reducible exact ih0 _ _ _)
      | (with_reducible exact ih1 _ _ _ _)
      | (with_reducible exact ih2 _ _ _ _ _ _ _ _ _ _)
      | (with_reducible exact ih3 _ _ _ _ _ _ _ _ _ _)
      | (with_reducible exact ih4 _ _ _ _ _ _ _ _ _ _)
      | (with_reducible exact LeO.refl _)
      | (with_reducible exact LeO.none _)
      | (with_reducible refine LeO.ite ?_ ?_)
      | (with_reducible refine LeO.bind ?_ (fun _ => ?_))
      | exact ih0 _ _ _
      | exact ih1 _ _ _ _
      | exact ih2 _ _ _ _ _ _ _ _ _ _
      | exact ih3 _ _ _ _ _ _ _ _ _ _
      | exact ih4 _ _ _ _ _ _ _ _ _ _
      | exact LeO.none _
      | refine LeO.ite ?_ ?_
      | refine LeO.bind ?_ (fun _ => ?_)
    · intro y0 y1 y2 y3
      unfold term_Check.l0
      repeat' first
      | (with_reducible exact ih0 _ _ _)
      | (with_reducible exact ih1 _ _ _ _)
      | (with_reducible exact ih2 _ _ _ _ _ _ _ _ _ _)
      | (with_reducible exact ih3 _ _ _ _ _ _ _ _ _ _)
      | (with_reducible exact ih4 _ _ _ _ _ _ _ _ _ _)
      | (with_reducible exact LeO.refl _)
      | (with_reducible exact LeO.none _)
      | (with_reducible refine LeO.ite ?_ ?_)
      | (with_reducible refine LeO.bind ?_ (fun _ => ?_))
      | exact ih0 _ _ _
      | exact ih1 _ _ _ _
      | exact ih2 _ _ _ _ _ _ _ _ _ _
      | exact ih3 _ _ _ _ _ _ _ _ _ _
      | exact ih4 _ _ _ _ _ _ _ _ _ _
      | exact LeO.none _
      | refine LeO.ite ?_ ?_
      | refine LeO.bind ?_ (fun _ => ?_)
    · intro y0 y1 y2 y3 y4 y5 y6 y7 y8 y9
      unfold term_Check.j2
      repeat' first
      | (with_reducible exact ih0 _ _ _)
      | (with_reducible exact ih1 _ _ _ _)
      | (with_reducible exact ih2 _ _ _ _ _ _ _ _ _ _)
      | (with_reducible exact ih3 _ _ _ _ _ _ _ _ _ _)
      | (with_reducible exact ih4 _ _ _ _ _ _ _ _ _ _)
      | (with_reducible exact LeO.refl _)
      | (with_reducible exact LeO.none _)
      | (with_reducible refine LeO.ite ?_ ?_)
      | (with_reducible refine LeO.bind ?_ (fun _ => ?_))
      | exact ih0 _ _ _
      | exact ih1 _ _ _ _
      | exact ih2 _ _ _ _ _ _ _ _ _ _
      | exact ih3 _ _ _ _ _ _ _ _ _ _
      | exact ih4 _ _ _ _ _ _ _ _ _ _
      | exact LeO.none _
      | refine LeO.ite ?_ ?_
      | refine LeO.bind ?_ (fun _ => ?_)
    · intro y0 y1 y2 y3 y4 y5 y6 y7 y8 y9
      unfold term_Check.j3
      repeat' first
      | (with_reducible exact ih0 _ _ _)
      | (with_reducible exact ih1 _ _ _ _)
      | (with_reducible exact ih2 _ _ _ _ _ _ _ _ _ _)
      | (with_reducible exact ih3 _ _ _ _ _ _ _ _ _ _)
      | (with_reducible exact ih4 _ _ _ _ _ _ _ _ _ _)
      | (with_reducible exact LeO.refl _)
      | (with_reducible exact LeO.none _)
      | (with_reducible refine LeO.ite ?_ ?_)
      | (with_reducible refine LeO.bind ?_ (fun _ => ?_))
      | exact ih0 _ _ _
      | exact ih1 _ _ _ _
      | exact ih2 _ _ _ _ _ _ _ _ _ _
      | exact ih3 _ _ _ _ _ _ _ _ _ _
      | exact ih4 _ _ _ _ _ _ _ _ _ _
      | exact LeO.none _
      | refine LeO.ite ?_ ?_
      | refine LeO.bind ?_ (fun _ => ?_)
    · intro y0 y1 y2 y3 y4 y5 y6 y7 y8 y9
      unfold term_Check.j4
      repeat' first
      | (with_reducible exact ih0 _ _ _)
      | (with_reducible exact ih1 _ _ _ _)
      | (with_reducible exact ih2 _ _ _ _ _ _ _ _ _ _)
      | (with_reducible exact ih3 _ _ _ _ _ _ _ _ _ _)
      | (with_reducible exact ih4 _ _ _ _ _ _ _ _ _ _)
      | (with_reducible exact LeO.refl _)
      | (with_reducible exact LeO.none _)
      | (with_reducible refine LeO.ite ?_ ?_)
      | (with_reducible refine LeO.bind ?_ (fun _ => ?_))
      | exact ih0 _ _ _
      | exact ih1 _ _ _ _
      | exact ih2 _ _ _ _ _ _ _ _ _ _
      | exact ih3 _ _ _ _ _ _ _ _ _ _
      | exact ih4 _ _ _ _ _ _ _ _ _ _
      | exact LeO.none _
      | refine LeO.ite ?_ ?_
      | refine LeO.bind ?_ (fun _ => ?_)
theorem term_Check.mono : ∀ a0 a1 k, LeO (term_Check.f k a0 a1) (term_Check.f (k + 1) a0 a1) := by
  intro a0 a1 k
  obtain ⟨ih0, ih1, ih2, ih3, ih4⟩ := term_Check.mono_l k
  unfold term_Check.f
  repeat' first
      | (with_reducible exact ih0 _ _ _)
      | (with_reducible exact ih1 _ _ _ _)
      | (with_reducible exact ih2 _ _ _ _ _ _ _ _ _ _)
      | (with_reducible exact ih3 _ _ _ _ _ _ _ _ _ _)
      | (with_reducible exact ih4 _ _ _ _ _ _ _ _ _ _)
      | (with_reducible exact LeO.refl _)
      | (with_reducible exact LeO.none _)
      | (with_reducible refine LeO.ite ?_ ?_)
      | (with_reducible refine LeO.bind ?_ (fun _ => ?_))
      | exact ih0 _ _ _
      | exact ih1 _ _ _ _
      | exact ih2 _ _ _ _ _ _ _ _ _ _
      | exact ih3 _ _ _ _ _ _ _ _ _ _
      | exact ih4 _ _ _ _ _ _ _ _ _ _
      | exact LeO.none _
      | refine LeO.ite ?_ ?_
      | refine LeO.bind ?_ (fun _ => ?_)
set_option maxHeartbeats 8000000 in
set_option maxRecDepth 100000 in
theorem term_Check.calls (k : Nat) (a0 : Int) (A1 : Option Addr) (c1 : Nat) (l1 : List (S159)) (r : Int) (w : World) (hr1 : Kd.C k159 w A1 l1.length l1) (hc1 : l1.length ≤ c1) (h : term_Check.f k a0 l1 = some r) :
    Calls Try.prog 178 #[.int .i64 a0, .slice A1 l1.length c1] w fun e w' => e = .returned (.int .i64 r) ∧ Below w.heap.size w w' := by
  have hu159 := Try.underlying159
  have HR1 := Aside0.mk hr1
  have HC1 := Aside0.mk hc1
  clear hr1 hc1
  have HB := Aside0.mk (Below.refl w.heap.size w)
  have H : (if a0 < 0 then (term_Check.j0 k a0 l1 true) else (if a0 > 6 then (term_Check.j0 k a0 l1 true) else (if (l1.length : Int) = 0 then (term_Check.j0 k a0 l1 true) else (term_Check.j0 k a0 l1 (decide ((l1.length : Int) > 16)))))) = some r := h
  clear h
  have HC3 := Aside0.mk H
  clear H
  go_enter Try.func178, Try.ntmps178
  go_upto_region 1 with (fail)
  go_cut [22] (fun v22 wc => ∃ (kq : Nat) (x22_2 : Bool), v22 = .bool x22_2 ∧ Aside0 (term_Check.j0 kq a0 l1 x22_2 = some r) ∧ Aside0 (kq ≤ k) ∧ Aside0 (Below w.heap.size w wc))
  case first =>
    have H := HC3.out
    clear HC3
    by_cases c4 : a0 < 0
    · rw [if_pos c4] at H
      have c4b0 : decide (a0 < 0) = true := decide_eq_true c4
      clear c4
      (first | rw [c4b0] | (simp only [i64_w, i32_w]; rw [c4b0]) | skip)
      have H' := Aside0.mk H
      clear H
      go_wp2
      go_meet
      case rel => exact ⟨_, (true), (by first | rfl | (simp; done) | (simp [*]; done)), H', ⟨by first | omega | exact Nat.le_refl _⟩, ⟨by repeat (first | (with_reducible first | exact HB.out | apply below_alloc | apply pw_below_drewN | apply below_drew1) | exact HB.out)⟩⟩
    · rw [if_neg c4] at H
      have c4b0 : decide (a0 < 0) = false := decide_eq_false c4
      clear c4
      (first | rw [c4b0] | (simp only [i64_w, i32_w]; rw [c4b0]) | skip)
      by_cases c5 : a0 > 6
      · rw [if_pos c5] at H
        have c5b0 : decide (6 < a0) = true := decide_eq_true c5
        clear c5
        have H' := Aside0.mk H
        clear H
        go_wp2
        go_meet
        case rel => exact ⟨_, (true), (by first | rfl | (simp; done) | (simp [*]; done)), H', ⟨by first | omega | exact Nat.le_refl _⟩, ⟨by repeat (first | (with_reducible first | exact HB.out | apply below_alloc | apply pw_below_drewN | apply below_drew1) | exact HB.out)⟩⟩
      · rw [if_neg c5] at H
        have c5b0 : decide (6 < a0) = false := decide_eq_false c5
        clear c5
        by_cases c6 : (l1.length : Int) = 0
        · rw [if_pos c6] at H
          have c6b0 : ((l1.length : Int) == 0) = true := beq_iff_eq.mpr c6
          have c6b1 : ((l1.length : Int) != 0) = false := bne_eq_false_iff_eq.mpr c6
          clear c6
          have H' := Aside0.mk H
          clear H
          go_wp2
          go_meet
          case rel => exact ⟨_, (true), (by first | rfl | (simp; done) | (simp [*]; done)), H', ⟨by first | omega | exact Nat.le_refl _⟩, ⟨by repeat (first | (with_reducible first | exact HB.out | apply below_alloc | apply pw_below_drewN | apply below_drew1) | exact HB.out)⟩⟩
        · rw [if_neg c6] at H
          have c6b0 : ((l1.length : Int) == 0) = false := beq_eq_false_iff_ne.mpr c6
          have c6b1 : ((l1.length : Int) != 0) = true := bne_iff_ne.mpr c6
          have c6b2 : ¬ (l1 = []) := fun h_ => c6 (by rw [h_]; rfl)
          have H' := Aside0.mk H
          clear H
          go_wp2
          go_meet
          case rel => exact ⟨_, (decide ((l1.length : Int) > 16)), (by first | rfl | (simp; done) | (simp [*]; done)), H', ⟨by first | omega | exact Nat.le_refl _⟩, ⟨by repeat (first | (with_reducible first | exact HB.out | apply below_alloc | apply pw_below_drewN | apply below_drew1) | exact HB.out)⟩⟩
  case rest =>
    clear HC3
    try clear c1
    try clear p2
    try clear c4
    try clear c4b0
    try clear c5
    try clear c5b0
    try clear c6
    try clear c6b0
    try clear c6b1
    try clear c6b2
    obtain ⟨kq, x22_2, rfl, HA, HJ2, HB⟩ := hcut
    cases kq with
    | zero => exact absurd HA.out (by simp [term_Check.j0])
    | succ kj2 =>
      have H := HA.out
      clear HA
      simp only [term_Check.j0] at H
      by_cases c7 : x22_2 = true
      · subst c7
        have H1 : (some 1) = some r := by rw [if_pos rfl] at H; exact H
        clear H
        have H := H1
        clear H1
        obtain rfl := Option.some.inj H
        go_wp2
        go_ret
        exact ⟨by first | rfl | (simp [errW_none, errW_some] <;> rfl) | (simp [*, errW_none, errW_some] <;> rfl), by repeat (first | (with_reducible first | exact HB.out | apply below_alloc | apply pw_below_drewN | apply below_drew1) | exact HB.out)⟩
      · replace c7 := Bool.eq_false_iff.mpr c7
        subst c7
        have H1 : (term_Check.l0 kj2 a0 l1 (l1.length : Int) 0) = some r := by rw [if_neg (show ¬ (false = true) by decide)] at H; exact H
        clear H
        have H := H1
        clear H1
        have H' := Aside0.mk H
        clear H
        go_wp2
        go_loopg [25] kj2 (fun kq v25 w' => ∃ (x25_2 : Int), v25 = .int .i64 x25_2 ∧ Aside0 (term_Check.l0 kq a0 l1 (l1.length : Int) x25_2 = some r) ∧ Aside0 (kq ≤ kj2) ∧ Aside0 (Below w.heap.size w w'))
        case atStart => exact ⟨(0), (by first | rfl | (simp; done) | (simp [*]; done)), H', ⟨Nat.le_refl _⟩, ⟨by repeat (first | (with_reducible first | exact HB.out | apply below_alloc | apply pw_below_drewN | apply below_drew1) | exact HB.out)⟩⟩
        case round =>
          clear H'
          try clear c1
          try clear p2
          try clear c4
          try clear c4b0
          try clear c5
          try clear c5b0
          try clear c6
          try clear c6b0
          try clear c6b1
          try clear c6b2
          try clear c7
          try clear p2
          obtain ⟨x25_2, rfl, HA, HK2, HB⟩ := hrel
          cases gk with
          | zero => exact absurd HA.out (by simp [term_Check.l0])
          | succ k2 =>
            have H := HA.out
            clear HA
            simp only [term_Check.l0] at H
            by_cases c8 : x25_2 < (l1.length : Int)
            · rw [if_pos c8] at H
              have c8b0 : decide (x25_2 < (l1.length : Int)) = true := decide_eq_true c8
              clear c8
              by_cases c9 : 0 ≤ x25_2
              · rw [if_pos c9] at H
                have c9b0 : decide (0 ≤ x25_2) = true := decide_eq_true c9
                clear c9
                by_cases c10 : x25_2 < (l1.length : Int)
                · rw [if_pos c10] at H
                  have c10b0 : decide (x25_2 < (l1.length : Int)) = true := decide_eq_true c10
                  clear c10
                  have HC11 := Aside0.mk H
                  clear H
                  have p549 : 0 ≤ (x25_2 : Int) := of_decide_eq_true (by first | (with_reducible assumption) | assumption)
                  have q549 : x25_2 < (l1.length : Int) := of_decide_eq_true (by first | (with_reducible assumption) | assumption)
                  obtain ⟨ad549, e549, hx549_0, hx549_1, hx549_2, hx549_3⟩ := at_T159 HR1.out x25_2 p549 q549
                  cases e549
                  replace hx549_0 := (HB.out.cell (World.block_lt_of_cell? w _ hx549_0)).trans hx549_0
                  replace hx549_1 := (HB.out.cell (World.block_lt_of_cell? w _ hx549_1)).trans hx549_1
                  replace hx549_2 := (HB.out.cell (World.block_lt_of_cell? w _ hx549_2)).trans hx549_2
                  replace hx549_3 := (HB.out.cell (World.block_lt_of_cell? w _ hx549_3)).trans hx549_3
                  replace p549 := eq_true p549
                  replace q549 := eq_true q549
                  go_upto_region 6 with (first | ((with_reducible refine gate_dst (N := 6) rfl ?_); (try (refine gate_guard (by rfl) ?_; dsimp only)); refine box_event ?hg (N := 6) ?hd (cs := #[.int .i64 0, .int .i64 0, .int .i64 0, .int .i64 0]) (t := 159) ?hr ?_; (case hd => rfl); (case hg => rfl); (case hr => first | (go_simp; done) | (go_simp; rfl)); intro gb550 hg w12 hbox hb; have n0_ := Aside0.mk (below_step (by repeat (first | (with_reducible first | exact HB.out | apply below_alloc | apply pw_below_drewN | apply below_drew1) | exact HB.out)) hb); have n1_ := Aside0.mk (hbox); have n2_ := Aside0.mk ((by rw [hg]; exact (below_size (by repeat (first | (with_reducible first | exact HB.out | apply below_alloc | apply pw_below_drewN | apply below_drew1) | exact HB.out))) : w.heap.size ≤ gb550)); have n3_ := Aside0.mk ((by rw [hg]; exact (below_size (by repeat (first | (with_reducible first | exact HB.out | apply below_alloc | apply pw_below_drewN | apply below_drew1) | exact HB.out))) : w.heap.size ≤ gb550)); clear HB; have HB := n0_; have BK550 := n1_; have GW550 := n2_; have GE550 := n3_; clear n0_ n1_ n2_ n3_; clear hb hbox hg; have hcz13_0 : w12.cell? ⟨gb550, 0, none⟩ = some (.int .i64 0) := (blk_cell BK550.out 0).trans rfl; have hcz13_1 : w12.cell? ⟨gb550, 1, none⟩ = some (.int .i64 0) := (blk_cell BK550.out 1).trans rfl; have hcz13_2 : w12.cell? ⟨gb550, 2, none⟩ = some (.int .i64 0) := (blk_cell BK550.out 2).trans rfl; have hcz13_3 : w12.cell? ⟨gb550, 3, none⟩ = some (.int .i64 0) := (blk_cell BK550.out 3).trans rfl; have hfz13_0 := blk_frozen BK550.out 0; have hfz13_1 := blk_frozen BK550.out 1; have hfz13_2 := blk_frozen BK550.out 2; have hfz13_3 := blk_frozen BK550.out 3))
                  (try simp only [Act.put, List.setIfInBounds_toArray, List.set_cons_zero, List.set_cons_succ])
                  go_cut [30] (fun v30 wc => ∃ (kq : Nat) (x30_10 : Bool), v30 = .bool x30_10 ∧ Aside0 (term_Check.j2 kq a0 x25_2 l1 (l1.length : Int) x25_2 x30_10 ((rd_T159 l1 x25_2).f0) ((rd_T159 l1 x25_2).f1) ((rd_T159 l1 x25_2).f2) ((rd_T159 l1 x25_2).f3) = some r) ∧ Aside0 (kq ≤ k2) ∧ Aside0 (wc.heap[gb550]? = some (.cells #[.int .i64 ((rd_T159 l1 x25_2).f0), .int .i64 ((rd_T159 l1 x25_2).f1), .int .i64 ((rd_T159 l1 x25_2).f2), .int .i64 ((rd_T159 l1 x25_2).f3)] 159 (0, 0))) ∧ Aside0 (Below w.heap.size w wc))
                  case first =>
                    have H := HC11.out
                    clear HC11
                    by_cases c14 : ((rd_T159 l1 x25_2).f0) < 1
                    · rw [if_pos c14] at H
                      have c14b0 : decide (((rd_T159 l1 x25_2).f0) < 1) = true := decide_eq_true c14
                      clear c14
                      (first | rw [c14b0] | (simp only [i64_w, i32_w]; rw [c14b0]) | skip)
                      have H' := Aside0.mk H
                      clear H
                      have hcz15_0 : w12.cell? ⟨gb550, 0, none⟩ = some (.int .i64 0) := (blk_cell BK550.out 0).trans rfl
                      have hcz15_1 : w12.cell? ⟨gb550, 1, none⟩ = some (.int .i64 0) := (blk_cell BK550.out 1).trans rfl
                      have hcz15_2 : w12.cell? ⟨gb550, 2, none⟩ = some (.int .i64 0) := (blk_cell BK550.out 2).trans rfl
                      have hcz15_3 : w12.cell? ⟨gb550, 3, none⟩ = some (.int .i64 0) := (blk_cell BK550.out 3).trans rfl
                      have hfz15_0 := blk_frozen BK550.out 0
                      have hfz15_1 := blk_frozen BK550.out 1
                      have hfz15_2 := blk_frozen BK550.out 2
                      have hfz15_3 := blk_frozen BK550.out 3
                      go_wp2
                      go_meet
                      case rel => exact ⟨_, (true), (by first | rfl | (simp; done) | (simp [*]; done)), H', ⟨by have := HJ2.out; have := HK2.out; first | omega | exact Nat.le_refl _⟩, ⟨by (with_reducible repeat (first | refine blk_drewN ?_ _ | refine blk_drew ?_ | refine blk_alloc ?_ _)); refine blk_put (cs := #[.int .i64 ((rd_T159 l1 x25_2).f0), .int .i64 ((rd_T159 l1 x25_2).f1), .int .i64 ((rd_T159 l1 x25_2).f2), .int .i64 0]) ?_ 3 _ rfl; (with_reducible repeat (first | refine blk_drewN ?_ _ | refine blk_drew ?_ | refine blk_alloc ?_ _)); refine blk_put (cs := #[.int .i64 ((rd_T159 l1 x25_2).f0), .int .i64 ((rd_T159 l1 x25_2).f1), .int .i64 0, .int .i64 0]) ?_ 2 _ rfl; (with_reducible repeat (first | refine blk_drewN ?_ _ | refine blk_drew ?_ | refine blk_alloc ?_ _)); refine blk_put (cs := #[.int .i64 ((rd_T159 l1 x25_2).f0), .int .i64 0, .int .i64 0, .int .i64 0]) ?_ 1 _ rfl; (with_reducible repeat (first | refine blk_drewN ?_ _ | refine blk_drew ?_ | refine blk_alloc ?_ _)); refine blk_put (cs := #[.int .i64 0, .int .i64 0, .int .i64 0, .int .i64 0]) ?_ 0 _ rfl; (with_reducible repeat (first | refine blk_drewN ?_ _ | refine blk_drew ?_ | refine blk_alloc ?_ _)); exact BK550.out⟩, ⟨by repeat (first | (with_reducible first | exact HB.out | apply below_alloc | apply pw_below_drewN | apply below_drew1 | refine below_set ?_ GE550.out) | exact HB.out)⟩⟩
                    · rw [if_neg c14] at H
                      have c14b0 : decide (((rd_T159 l1 x25_2).f0) < 1) = false := decide_eq_false c14
                      clear c14
                      (first | rw [c14b0] | (simp only [i64_w, i32_w]; rw [c14b0]) | skip)
                      have H' := Aside0.mk H
                      clear H
                      have hcz16_0 : w12.cell? ⟨gb550, 0, none⟩ = some (.int .i64 0) := (blk_cell BK550.out 0).trans rfl
                      have hcz16_1 : w12.cell? ⟨gb550, 1, none⟩ = some (.int .i64 0) := (blk_cell BK550.out 1).trans rfl
                      have hcz16_2 : w12.cell? ⟨gb550, 2, none⟩ = some (.int .i64 0) := (blk_cell BK550.out 2).trans rfl
                      have hcz16_3 : w12.cell? ⟨gb550, 3, none⟩ = some (.int .i64 0) := (blk_cell BK550.out 3).trans rfl
                      have hfz16_0 := blk_frozen BK550.out 0
                      have hfz16_1 := blk_frozen BK550.out 1
                      have hfz16_2 := blk_frozen BK550.out 2
                      have hfz16_3 := blk_frozen BK550.out 3
                      go_wp2
                      go_meet
                      case rel => exact ⟨_, (decide (((rd_T159 l1 x25_2).f0) > 6)), (by first | rfl | (simp; done) | (simp [*]; done)), H', ⟨by have := HJ2.out; have := HK2.out; first | omega | exact Nat.le_refl _⟩, ⟨by (with_reducible repeat (first | refine blk_drewN ?_ _ | refine blk_drew ?_ | refine blk_alloc ?_ _)); refine blk_put (cs := #[.int .i64 ((rd_T159 l1 x25_2).f0), .int .i64 ((rd_T159 l1 x25_2).f1), .int .i64 ((rd_T159 l1 x25_2).f2), .int .i64 0]) ?_ 3 _ rfl; (with_reducible repeat (first | refine blk_drewN ?_ _ | refine blk_drew ?_ | refine blk_alloc ?_ _)); refine blk_put (cs := #[.int .i64 ((rd_T159 l1 x25_2).f0), .int .i64 ((rd_T159 l1 x25_2).f1), .int .i64 0, .int .i64 0]) ?_ 2 _ rfl; (with_reducible repeat (first | refine blk_drewN ?_ _ | refine blk_drew ?_ | refine blk_alloc ?_ _)); refine blk_put (cs := #[.int .i64 ((rd_T159 l1 x25_2).f0), .int .i64 0, .int .i64 0, .int .i64 0]) ?_ 1 _ rfl; (with_reducible repeat (first | refine blk_drewN ?_ _ | refine blk_drew ?_ | refine blk_alloc ?_ _)); refine blk_put (cs := #[.int .i64 0, .int .i64 0, .int .i64 0, .int .i64 0]) ?_ 0 _ rfl; (with_reducible repeat (first | refine blk_drewN ?_ _ | refine blk_drew ?_ | refine blk_alloc ?_ _)); exact BK550.out⟩, ⟨by repeat (first | (with_reducible first | exact HB.out | apply below_alloc | apply pw_below_drewN | apply below_drew1 | refine below_set ?_ GE550.out) | exact HB.out)⟩⟩
                  case rest =>
                    clear HC11
                    try clear c1
                    try clear p2
                    try clear c4
                    try clear c4b0
                    try clear c5
                    try clear c5b0
                    try clear p5
                    try clear q5
                    try clear hx5
                    try clear c6
                    try clear c6b0
                    try clear c6b1
                    try clear c6b2
                    try clear c7
                    try clear c8
                    try clear c8b0
                    try clear c9
                    try clear c9b0
                    try clear c10
                    try clear c10b0
                    try clear c14
                    try clear c14b0
                    try clear hcz13_0
                    try clear hcz13_1
                    try clear hcz13_2
                    try clear hcz13_3
                    try clear hcz15_0
                    try clear hcz15_1
                    try clear hcz15_2
                    try clear hcz15_3
                    try clear hcz16_0
                    try clear hcz16_1
                    try clear hcz16_2
                    try clear hcz16_3
                    try clear hfz13_0
                    try clear hfz13_1
                    try clear hfz13_2
                    try clear hfz13_3
                    try clear hfz15_0
                    try clear hfz15_1
                    try clear hfz15_2
                    try clear hfz15_3
                    try clear hfz16_0
                    try clear hfz16_1
                    try clear hfz16_2
                    try clear hfz16_3
                    try clear hx549_0
                    try clear hx549_1
                    try clear hx549_2
                    try clear hx549_3
                    try clear p2
                    try clear p549
                    try clear q549
                    obtain ⟨kq, x30_10, rfl, HA, HJ10, BK550, HB⟩ := hcut
                    cases kq with
                    | zero => exact absurd HA.out (by simp [term_Check.j2])
                    | succ kj10 =>
                      have H := HA.out
                      clear HA
                      simp only [term_Check.j2] at H
                      by_cases c17 : x30_10 = true
                      · subst c17
                        have H1 : (some 6) = some r := by rw [if_pos rfl] at H; exact H
                        clear H
                        have H := H1
                        clear H1
                        obtain rfl := Option.some.inj H
                        go_wp2
                        go_ret
                        exact ⟨by first | rfl | (simp [errW_none, errW_some] <;> rfl) | (simp [*, errW_none, errW_some] <;> rfl), by repeat (first | (with_reducible first | exact HB.out | apply below_alloc | apply pw_below_drewN | apply below_drew1 | refine below_set ?_ GE550.out) | exact HB.out)⟩
                      · replace c17 := Bool.eq_false_iff.mpr c17
                        subst c17
                        have H1 : (if ((rd_T159 l1 x25_2).f0) = 1 then (if ((rd_T159 l1 x25_2).f3) < 0 then (term_Check.j3 kj10 a0 x25_2 l1 (l1.length : Int) x25_2 true ((rd_T159 l1 x25_2).f0) ((rd_T159 l1 x25_2).f1) ((rd_T159 l1 x25_2).f2) ((rd_T159 l1 x25_2).f3)) else (term_Check.j3 kj10 a0 x25_2 l1 (l1.length : Int) x25_2 (decide (((rd_T159 l1 x25_2).f3) > 255)) ((rd_T159 l1 x25_2).f0) ((rd_T159 l1 x25_2).f1) ((rd_T159 l1 x25_2).f2) ((rd_T159 l1 x25_2).f3))) else (term_Check.j3 kj10 a0 x25_2 l1 (l1.length : Int) x25_2 false ((rd_T159 l1 x25_2).f0) ((rd_T159 l1 x25_2).f1) ((rd_T159 l1 x25_2).f2) ((rd_T159 l1 x25_2).f3))) = some r := by rw [if_neg (show ¬ (false = true) by decide)] at H; exact H
                        clear H
                        have H := H1
                        clear H1
                        have HC18 := Aside0.mk H
                        clear H
                        go_upto_region 8 with (fail)
                        go_cut [39] (fun v39 wc => ∃ (kq : Nat) (x39_17 : Bool), v39 = .bool x39_17 ∧ Aside0 (term_Check.j3 kq a0 x25_2 l1 (l1.length : Int) x25_2 x39_17 ((rd_T159 l1 x25_2).f0) ((rd_T159 l1 x25_2).f1) ((rd_T159 l1 x25_2).f2) ((rd_T159 l1 x25_2).f3) = some r) ∧ Aside0 (kq ≤ kj10) ∧ Aside0 (wc.heap[gb550]? = some (.cells #[.int .i64 ((rd_T159 l1 x25_2).f0), .int .i64 ((rd_T159 l1 x25_2).f1), .int .i64 ((rd_T159 l1 x25_2).f2), .int .i64 ((rd_T159 l1 x25_2).f3)] 159 (0, 0))) ∧ Aside0 (Below w.heap.size w wc))
                        case first =>
                          have H := HC18.out
                          clear HC18
                          by_cases c19 : ((rd_T159 l1 x25_2).f0) = 1
                          · rw [if_pos c19] at H
                            have c19b0 : (((rd_T159 l1 x25_2).f0) == 1) = true := beq_iff_eq.mpr c19
                            have c19b1 : (((rd_T159 l1 x25_2).f0) != 1) = false := bne_eq_false_iff_eq.mpr c19
                            clear c19
                            (first | rw [c19b0] | (simp only [i64_w, i32_w]; rw [c19b0]) | skip)
                            by_cases c20 : ((rd_T159 l1 x25_2).f3) < 0
                            · rw [if_pos c20] at H
                              have c20b0 : decide (((rd_T159 l1 x25_2).f3) < 0) = true := decide_eq_true c20
                              clear c20
                              have H' := Aside0.mk H
                              clear H
                              have hcz21_0 : wc.cell? ⟨gb550, 0, none⟩ = some (.int .i64 ((rd_T159 l1 x25_2).f0)) := (blk_cell BK550.out 0).trans rfl
                              have hcz21_1 : wc.cell? ⟨gb550, 1, none⟩ = some (.int .i64 ((rd_T159 l1 x25_2).f1)) := (blk_cell BK550.out 1).trans rfl
                              have hcz21_2 : wc.cell? ⟨gb550, 2, none⟩ = some (.int .i64 ((rd_T159 l1 x25_2).f2)) := (blk_cell BK550.out 2).trans rfl
                              have hcz21_3 : wc.cell? ⟨gb550, 3, none⟩ = some (.int .i64 ((rd_T159 l1 x25_2).f3)) := (blk_cell BK550.out 3).trans rfl
                              have hfz21_0 := blk_frozen BK550.out 0
                              have hfz21_1 := blk_frozen BK550.out 1
                              have hfz21_2 := blk_frozen BK550.out 2
                              have hfz21_3 := blk_frozen BK550.out 3
                              go_wp2
                              go_meet
                              case rel => exact ⟨_, (true), (by first | rfl | (simp; done) | (simp [*]; done)), H', ⟨by have := HJ2.out; have := HK2.out; have := HJ10.out; first | omega | exact Nat.le_refl _⟩, ⟨by (with_reducible repeat (first | refine blk_drewN ?_ _ | refine blk_drew ?_ | refine blk_alloc ?_ _)); exact BK550.out⟩, ⟨by repeat (first | (with_reducible first | exact HB.out | apply below_alloc | apply pw_below_drewN | apply below_drew1 | refine below_set ?_ GE550.out) | exact HB.out)⟩⟩
                            · rw [if_neg c20] at H
                              have c20b0 : decide (((rd_T159 l1 x25_2).f3) < 0) = false := decide_eq_false c20
                              clear c20
                              have H' := Aside0.mk H
                              clear H
                              have hcz22_0 : wc.cell? ⟨gb550, 0, none⟩ = some (.int .i64 ((rd_T159 l1 x25_2).f0)) := (blk_cell BK550.out 0).trans rfl
                              have hcz22_1 : wc.cell? ⟨gb550, 1, none⟩ = some (.int .i64 ((rd_T159 l1 x25_2).f1)) := (blk_cell BK550.out 1).trans rfl
                              have hcz22_2 : wc.cell? ⟨gb550, 2, none⟩ = some (.int .i64 ((rd_T159 l1 x25_2).f2)) := (blk_cell BK550.out 2).trans rfl
                              have hcz22_3 : wc.cell? ⟨gb550, 3, none⟩ = some (.int .i64 ((rd_T159 l1 x25_2).f3)) := (blk_cell BK550.out 3).trans rfl
                              have hfz22_0 := blk_frozen BK550.out 0
                              have hfz22_1 := blk_frozen BK550.out 1
                              have hfz22_2 := blk_frozen BK550.out 2
                              have hfz22_3 := blk_frozen BK550.out 3
                              go_wp2
                              go_meet
                              case rel => exact ⟨_, (decide (((rd_T159 l1 x25_2).f3) > 255)), (by first | rfl | (simp; done) | (simp [*]; done)), H', ⟨by have := HJ2.out; have := HK2.out; have := HJ10.out; first | omega | exact Nat.le_refl _⟩, ⟨by (with_reducible repeat (first | refine blk_drewN ?_ _ | refine blk_drew ?_ | refine blk_alloc ?_ _)); exact BK550.out⟩, ⟨by repeat (first | (with_reducible first | exact HB.out | apply below_alloc | apply pw_below_drewN | apply below_drew1 | refine below_set ?_ GE550.out) | exact HB.out)⟩⟩
                          · rw [if_neg c19] at H
                            have c19b0 : (((rd_T159 l1 x25_2).f0) == 1) = false := beq_eq_false_iff_ne.mpr c19
                            have c19b1 : (((rd_T159 l1 x25_2).f0) != 1) = true := bne_iff_ne.mpr c19
                            (first | rw [c19b0] | (simp only [i64_w, i32_w]; rw [c19b0]) | skip)
                            have H' := Aside0.mk H
                            clear H
                            have hcz23_0 : wc.cell? ⟨gb550, 0, none⟩ = some (.int .i64 ((rd_T159 l1 x25_2).f0)) := (blk_cell BK550.out 0).trans rfl
                            have hcz23_1 : wc.cell? ⟨gb550, 1, none⟩ = some (.int .i64 ((rd_T159 l1 x25_2).f1)) := (blk_cell BK550.out 1).trans rfl
                            have hcz23_2 : wc.cell? ⟨gb550, 2, none⟩ = some (.int .i64 ((rd_T159 l1 x25_2).f2)) := (blk_cell BK550.out 2).trans rfl
                            have hcz23_3 : wc.cell? ⟨gb550, 3, none⟩ = some (.int .i64 ((rd_T159 l1 x25_2).f3)) := (blk_cell BK550.out 3).trans rfl
                            have hfz23_0 := blk_frozen BK550.out 0
                            have hfz23_1 := blk_frozen BK550.out 1
                            have hfz23_2 := blk_frozen BK550.out 2
                            have hfz23_3 := blk_frozen BK550.out 3
                            go_wp2
                            go_meet
                            case rel => exact ⟨_, (false), (by first | rfl | (simp; done) | (simp [*]; done)), H', ⟨by have := HJ2.out; have := HK2.out; have := HJ10.out; first | omega | exact Nat.le_refl _⟩, ⟨by (with_reducible repeat (first | refine blk_drewN ?_ _ | refine blk_drew ?_ | refine blk_alloc ?_ _)); exact BK550.out⟩, ⟨by repeat (first | (with_reducible first | exact HB.out | apply below_alloc | apply pw_below_drewN | apply below_drew1 | refine below_set ?_ GE550.out) | exact HB.out)⟩⟩
                        case rest =>
                          clear HC18
                          try clear c1
                          try clear c2
                          try clear p2
                          try clear c4
                          try clear c4b0
                          try clear c5
                          try clear c5b0
                          try clear p5
                          try clear q5
                          try clear hx5
                          try clear c6
                          try clear c6b0
                          try clear c6b1
                          try clear c6b2
                          try clear c7
                          try clear c8
                          try clear c8b0
                          try clear c9
                          try clear c9b0
                          try clear c10
                          try clear c10b0
                          try clear c14
                          try clear c14b0
                          try clear c17
                          try clear c19
                          try clear c19b0
                          try clear c19b1
                          try clear c20
                          try clear c20b0
                          try clear hcz13_0
                          try clear hcz13_1
                          try clear hcz13_2
                          try clear hcz13_3
                          try clear hcz15_0
                          try clear hcz15_1
                          try clear hcz15_2
                          try clear hcz15_3
                          try clear hcz16_0
                          try clear hcz16_1
                          try clear hcz16_2
                          try clear hcz16_3
                          try clear hcz21_0
                          try clear hcz21_1
                          try clear hcz21_2
                          try clear hcz21_3
                          try clear hcz22_0
                          try clear hcz22_1
                          try clear hcz22_2
                          try clear hcz22_3
                          try clear hcz23_0
                          try clear hcz23_1
                          try clear hcz23_2
                          try clear hcz23_3
                          try clear hfz13_0
                          try clear hfz13_1
                          try clear hfz13_2
                          try clear hfz13_3
                          try clear hfz15_0
                          try clear hfz15_1
                          try clear hfz15_2
                          try clear hfz15_3
                          try clear hfz16_0
                          try clear hfz16_1
                          try clear hfz16_2
                          try clear hfz16_3
                          try clear hfz21_0
                          try clear hfz21_1
                          try clear hfz21_2
                          try clear hfz21_3
                          try clear hfz22_0
                          try clear hfz22_1
                          try clear hfz22_2
                          try clear hfz22_3
                          try clear hfz23_0
                          try clear hfz23_1
                          try clear hfz23_2
                          try clear hfz23_3
                          try clear hx549_0
                          try clear hx549_1
                          try clear hx549_2
                          try clear hx549_3
                          try clear p2
                          try clear p5
                          try clear p549
                          try clear q5
                          try clear q549
                          obtain ⟨kq, x39_17, rfl, HA, HJ17, BK550, HB⟩ := hcut
                          cases kq with
                          | zero => exact absurd HA.out (by simp [term_Check.j3])
                          | succ kj17 =>
                            have H := HA.out
                            clear HA
                            simp only [term_Check.j3] at H
                            have HC24 := Aside0.mk H
                            clear H
                            go_upto_if 39 with (fail)
                            go_cut [39] (fun v39 wc => ∃ (kq : Nat) (x39_23 : Bool), v39 = .bool x39_23 ∧ Aside0 (term_Check.j4 kq a0 x25_2 l1 (l1.length : Int) x25_2 x39_23 ((rd_T159 l1 x25_2).f0) ((rd_T159 l1 x25_2).f1) ((rd_T159 l1 x25_2).f2) ((rd_T159 l1 x25_2).f3) = some r) ∧ Aside0 (kq ≤ kj17) ∧ Aside0 (wc.heap[gb550]? = some (.cells #[.int .i64 ((rd_T159 l1 x25_2).f0), .int .i64 ((rd_T159 l1 x25_2).f1), .int .i64 ((rd_T159 l1 x25_2).f2), .int .i64 ((rd_T159 l1 x25_2).f3)] 159 (0, 0))) ∧ Aside0 (Below w.heap.size w wc))
                            case first =>
                              have H := HC24.out
                              clear HC24
                              by_cases c25 : x39_17 = true
                              · subst c25
                                have H1 : (term_Check.j4 kj17 a0 x25_2 l1 (l1.length : Int) x25_2 true ((rd_T159 l1 x25_2).f0) ((rd_T159 l1 x25_2).f1) ((rd_T159 l1 x25_2).f2) ((rd_T159 l1 x25_2).f3)) = some r := by rw [if_pos rfl] at H; exact H
                                clear H
                                have H := H1
                                clear H1
                                have H' := Aside0.mk H
                                clear H
                                go_wp2
                                go_meet
                                case rel => exact ⟨_, (true), (by first | rfl | (simp; done) | (simp [*]; done)), H', ⟨by have := HJ2.out; have := HK2.out; have := HJ10.out; have := HJ17.out; first | omega | exact Nat.le_refl _⟩, ⟨by (with_reducible repeat (first | refine blk_drewN ?_ _ | refine blk_drew ?_ | refine blk_alloc ?_ _)); exact BK550.out⟩, ⟨by repeat (first | (with_reducible first | exact HB.out | apply below_alloc | apply pw_below_drewN | apply below_drew1 | refine below_set ?_ GE550.out) | exact HB.out)⟩⟩
                              · replace c25 := Bool.eq_false_iff.mpr c25
                                subst c25
                                have H1 : (if ((rd_T159 l1 x25_2).f0) = 2 then (if ((rd_T159 l1 x25_2).f3) < 0 then (term_Check.j4 kj17 a0 x25_2 l1 (l1.length : Int) x25_2 true ((rd_T159 l1 x25_2).f0) ((rd_T159 l1 x25_2).f1) ((rd_T159 l1 x25_2).f2) ((rd_T159 l1 x25_2).f3)) else (term_Check.j4 kj17 a0 x25_2 l1 (l1.length : Int) x25_2 (decide (((rd_T159 l1 x25_2).f3) ≥ a0)) ((rd_T159 l1 x25_2).f0) ((rd_T159 l1 x25_2).f1) ((rd_T159 l1 x25_2).f2) ((rd_T159 l1 x25_2).f3))) else (term_Check.j4 kj17 a0 x25_2 l1 (l1.length : Int) x25_2 false ((rd_T159 l1 x25_2).f0) ((rd_T159 l1 x25_2).f1) ((rd_T159 l1 x25_2).f2) ((rd_T159 l1 x25_2).f3))) = some r := by rw [if_neg (show ¬ (false = true) by decide)] at H; exact H
                                clear H
                                have H := H1
                                clear H1
                                by_cases c26 : ((rd_T159 l1 x25_2).f0) = 2
                                · rw [if_pos c26] at H
                                  have c26b0 : (((rd_T159 l1 x25_2).f0) == 2) = true := beq_iff_eq.mpr c26
                                  have c26b1 : (((rd_T159 l1 x25_2).f0) != 2) = false := bne_eq_false_iff_eq.mpr c26
                                  clear c26
                                  (first | rw [c26b0] | (simp only [i64_w, i32_w]; rw [c26b0]) | skip)
                                  by_cases c27 : ((rd_T159 l1 x25_2).f3) < 0
                                  · rw [if_pos c27] at H
                                    have c27b0 : decide (((rd_T159 l1 x25_2).f3) < 0) = true := decide_eq_true c27
                                    clear c27
                                    have H' := Aside0.mk H
                                    clear H
                                    have hcz28_0 : wc.cell? ⟨gb550, 0, none⟩ = some (.int .i64 ((rd_T159 l1 x25_2).f0)) := (blk_cell BK550.out 0).trans rfl
                                    have hcz28_1 : wc.cell? ⟨gb550, 1, none⟩ = some (.int .i64 ((rd_T159 l1 x25_2).f1)) := (blk_cell BK550.out 1).trans rfl
                                    have hcz28_2 : wc.cell? ⟨gb550, 2, none⟩ = some (.int .i64 ((rd_T159 l1 x25_2).f2)) := (blk_cell BK550.out 2).trans rfl
                                    have hcz28_3 : wc.cell? ⟨gb550, 3, none⟩ = some (.int .i64 ((rd_T159 l1 x25_2).f3)) := (blk_cell BK550.out 3).trans rfl
                                    have hfz28_0 := blk_frozen BK550.out 0
                                    have hfz28_1 := blk_frozen BK550.out 1
                                    have hfz28_2 := blk_frozen BK550.out 2
                                    have hfz28_3 := blk_frozen BK550.out 3
                                    go_wp2
                                    go_meet
                                    case rel => exact ⟨_, (true), (by first | rfl | (simp; done) | (simp [*]; done)), H', ⟨by have := HJ2.out; have := HK2.out; have := HJ10.out; have := HJ17.out; first | omega | exact Nat.le_refl _⟩, ⟨by (with_reducible repeat (first | refine blk_drewN ?_ _ | refine blk_drew ?_ | refine blk_alloc ?_ _)); exact BK550.out⟩, ⟨by repeat (first | (with_reducible first | exact HB.out | apply below_alloc | apply pw_below_drewN | apply below_drew1 | refine below_set ?_ GE550.out) | exact HB.out)⟩⟩
                                  · rw [if_neg c27] at H
                                    have c27b0 : decide (((rd_T159 l1 x25_2).f3) < 0) = false := decide_eq_false c27
                                    clear c27
                                    have H' := Aside0.mk H
                                    clear H
                                    have hcz29_0 : wc.cell? ⟨gb550, 0, none⟩ = some (.int .i64 ((rd_T159 l1 x25_2).f0)) := (blk_cell BK550.out 0).trans rfl
                                    have hcz29_1 : wc.cell? ⟨gb550, 1, none⟩ = some (.int .i64 ((rd_T159 l1 x25_2).f1)) := (blk_cell BK550.out 1).trans rfl
                                    have hcz29_2 : wc.cell? ⟨gb550, 2, none⟩ = some (.int .i64 ((rd_T159 l1 x25_2).f2)) := (blk_cell BK550.out 2).trans rfl
                                    have hcz29_3 : wc.cell? ⟨gb550, 3, none⟩ = some (.int .i64 ((rd_T159 l1 x25_2).f3)) := (blk_cell BK550.out 3).trans rfl
                                    have hfz29_0 := blk_frozen BK550.out 0
                                    have hfz29_1 := blk_frozen BK550.out 1
                                    have hfz29_2 := blk_frozen BK550.out 2
                                    have hfz29_3 := blk_frozen BK550.out 3
                                    go_wp2
                                    go_meet
                                    case rel => exact ⟨_, (decide (((rd_T159 l1 x25_2).f3) ≥ a0)), (by first | rfl | (simp; done) | (simp [*]; done)), H', ⟨by have := HJ2.out; have := HK2.out; have := HJ10.out; have := HJ17.out; first | omega | exact Nat.le_refl _⟩, ⟨by (with_reducible repeat (first | refine blk_drewN ?_ _ | refine blk_drew ?_ | refine blk_alloc ?_ _)); exact BK550.out⟩, ⟨by repeat (first | (with_reducible first | exact HB.out | apply below_alloc | apply pw_below_drewN | apply below_drew1 | refine below_set ?_ GE550.out) | exact HB.out)⟩⟩
                                · rw [if_neg c26] at H
                                  have c26b0 : (((rd_T159 l1 x25_2).f0) == 2) = false := beq_eq_false_iff_ne.mpr c26
                                  have c26b1 : (((rd_T159 l1 x25_2).f0) != 2) = true := bne_iff_ne.mpr c26
                                  (first | rw [c26b0] | (simp only [i64_w, i32_w]; rw [c26b0]) | skip)
                                  have H' := Aside0.mk H
                                  clear H
                                  have hcz30_0 : wc.cell? ⟨gb550, 0, none⟩ = some (.int .i64 ((rd_T159 l1 x25_2).f0)) := (blk_cell BK550.out 0).trans rfl
                                  have hcz30_1 : wc.cell? ⟨gb550, 1, none⟩ = some (.int .i64 ((rd_T159 l1 x25_2).f1)) := (blk_cell BK550.out 1).trans rfl
                                  have hcz30_2 : wc.cell? ⟨gb550, 2, none⟩ = some (.int .i64 ((rd_T159 l1 x25_2).f2)) := (blk_cell BK550.out 2).trans rfl
                                  have hcz30_3 : wc.cell? ⟨gb550, 3, none⟩ = some (.int .i64 ((rd_T159 l1 x25_2).f3)) := (blk_cell BK550.out 3).trans rfl
                                  have hfz30_0 := blk_frozen BK550.out 0
                                  have hfz30_1 := blk_frozen BK550.out 1
                                  have hfz30_2 := blk_frozen BK550.out 2
                                  have hfz30_3 := blk_frozen BK550.out 3
                                  go_wp2
                                  go_meet
                                  case rel => exact ⟨_, (false), (by first | rfl | (simp; done) | (simp [*]; done)), H', ⟨by have := HJ2.out; have := HK2.out; have := HJ10.out; have := HJ17.out; first | omega | exact Nat.le_refl _⟩, ⟨by (with_reducible repeat (first | refine blk_drewN ?_ _ | refine blk_drew ?_ | refine blk_alloc ?_ _)); exact BK550.out⟩, ⟨by repeat (first | (with_reducible first | exact HB.out | apply below_alloc | apply pw_below_drewN | apply below_drew1 | refine below_set ?_ GE550.out) | exact HB.out)⟩⟩
                            case rest =>
                              clear HC24
                              try clear c1
                              try clear c2
                              try clear p2
                              try clear c4
                              try clear c4b0
                              try clear c5
                              try clear c5b0
                              try clear p5
                              try clear q5
                              try clear hx5
                              try clear c6
                              try clear c6b0
                              try clear c6b1
                              try clear c6b2
                              try clear c7
                              try clear c8
                              try clear c8b0
                              try clear c9
                              try clear c9b0
                              try clear c10
                              try clear c10b0
                              try clear c14
                              try clear c14b0
                              try clear c17
                              try clear c19
                              try clear c19b0
                              try clear c19b1
                              try clear c20
                              try clear c20b0
                              try clear c25
                              try clear c26
                              try clear c26b0
                              try clear c26b1
                              try clear c27
                              try clear c27b0
                              try clear hcz13_0
                              try clear hcz13_1
                              try clear hcz13_2
                              try clear hcz13_3
                              try clear hcz15_0
                              try clear hcz15_1
                              try clear hcz15_2
                              try clear hcz15_3
                              try clear hcz16_0
                              try clear hcz16_1
                              try clear hcz16_2
                              try clear hcz16_3
                              try clear hcz21_0
                              try clear hcz21_1
                              try clear hcz21_2
                              try clear hcz21_3
                              try clear hcz22_0
                              try clear hcz22_1
                              try clear hcz22_2
                              try clear hcz22_3
                              try clear hcz23_0
                              try clear hcz23_1
                              try clear hcz23_2
                              try clear hcz23_3
                              try clear hcz28_0
                              try clear hcz28_1
                              try clear hcz28_2
                              try clear hcz28_3
                              try clear hcz29_0
                              try clear hcz29_1
                              try clear hcz29_2
                              try clear hcz29_3
                              try clear hcz30_0
                              try clear hcz30_1
                              try clear hcz30_2
                              try clear hcz30_3
                              try clear hfz13_0
                              try clear hfz13_1
                              try clear hfz13_2
                              try clear hfz13_3
                              try clear hfz15_0
                              try clear hfz15_1
                              try clear hfz15_2
                              try clear hfz15_3
                              try clear hfz16_0
                              try clear hfz16_1
                              try clear hfz16_2
                              try clear hfz16_3
                              try clear hfz21_0
                              try clear hfz21_1
                              try clear hfz21_2
                              try clear hfz21_3
                              try clear hfz22_0
                              try clear hfz22_1
                              try clear hfz22_2
                              try clear hfz22_3
                              try clear hfz23_0
                              try clear hfz23_1
                              try clear hfz23_2
                              try clear hfz23_3
                              try clear hfz28_0
                              try clear hfz28_1
                              try clear hfz28_2
                              try clear hfz28_3
                              try clear hfz29_0
                              try clear hfz29_1
                              try clear hfz29_2
                              try clear hfz29_3
                              try clear hfz30_0
                              try clear hfz30_1
                              try clear hfz30_2
                              try clear hfz30_3
                              try clear hx549_0
                              try clear hx549_1
                              try clear hx549_2
                              try clear hx549_3
                              try clear p2
                              try clear p5
                              try clear p549
                              try clear q5
                              try clear q549
                              obtain ⟨kq, x39_23, rfl, HA, HJ23, BK550, HB⟩ := hcut
                              cases kq with
                              | zero => exact absurd HA.out (by simp [term_Check.j4])
                              | succ kj23 =>
                                have H := HA.out
                                clear HA
                                simp only [term_Check.j4] at H
                                by_cases c31 : x39_23 = true
                                · subst c31
                                  have H1 : (some 4) = some r := by rw [if_pos rfl] at H; exact H
                                  clear H
                                  have H := H1
                                  clear H1
                                  obtain rfl := Option.some.inj H
                                  go_wp2
                                  go_ret
                                  exact ⟨by first | rfl | (simp [errW_none, errW_some] <;> rfl) | (simp [*, errW_none, errW_some] <;> rfl), by repeat (first | (with_reducible first | exact HB.out | apply below_alloc | apply pw_below_drewN | apply below_drew1 | refine below_set ?_ GE550.out) | exact HB.out)⟩
                                · replace c31 := Bool.eq_false_iff.mpr c31
                                  subst c31
                                  have H1 : (if ((rd_T159 l1 x25_2).f0) > 2 then (if (mn ((rd_T159 l1 x25_2).f1) ((rd_T159 l1 x25_2).f2)) < 0 then (some 2) else (if (mx ((rd_T159 l1 x25_2).f1) ((rd_T159 l1 x25_2).f2)) ≥ x25_2 then (some 2) else (term_Check.l0 kj23 a0 l1 (l1.length : Int) (wrap64 (x25_2 + 1))))) else (term_Check.l0 kj23 a0 l1 (l1.length : Int) (wrap64 (x25_2 + 1)))) = some r := by rw [if_neg (show ¬ (false = true) by decide)] at H; exact H
                                  clear H
                                  have H := H1
                                  clear H1
                                  by_cases c32 : ((rd_T159 l1 x25_2).f0) > 2
                                  · rw [if_pos c32] at H
                                    have c32b0 : decide (2 < ((rd_T159 l1 x25_2).f0)) = true := decide_eq_true c32
                                    clear c32
                                    obtain ⟨ji33, hji33⟩ : ∃ j_ : Int, (mn ((rd_T159 l1 x25_2).f1) ((rd_T159 l1 x25_2).f2)) = j_ := ⟨_, rfl⟩
                                    replace H : (if (ji33) < 0 then (some 2) else (if (mx ((rd_T159 l1 x25_2).f1) ((rd_T159 l1 x25_2).f2)) ≥ x25_2 then (some 2) else (term_Check.l0 kj23 a0 l1 (l1.length : Int) (wrap64 (x25_2 + 1))))) = some r := by first | (rw [hji33] at H; exact H) | (simp only [hji33] at H ⊢; exact H)
                                    have hji33_ : (if ((rd_T159 l1 x25_2).f2) < ((rd_T159 l1 x25_2).f1) then ((rd_T159 l1 x25_2).f2) else ((rd_T159 l1 x25_2).f1)) = ji33 := hji33
                                    by_cases c34 : (ji33) < 0
                                    · rw [if_pos c34] at H
                                      have c34b0 : decide ((ji33) < 0) = true := decide_eq_true c34
                                      clear c34
                                      obtain rfl := Option.some.inj H
                                      have hcz35_0 : wc.cell? ⟨gb550, 0, none⟩ = some (.int .i64 ((rd_T159 l1 x25_2).f0)) := (blk_cell BK550.out 0).trans rfl
                                      have hcz35_1 : wc.cell? ⟨gb550, 1, none⟩ = some (.int .i64 ((rd_T159 l1 x25_2).f1)) := (blk_cell BK550.out 1).trans rfl
                                      have hcz35_2 : wc.cell? ⟨gb550, 2, none⟩ = some (.int .i64 ((rd_T159 l1 x25_2).f2)) := (blk_cell BK550.out 2).trans rfl
                                      have hcz35_3 : wc.cell? ⟨gb550, 3, none⟩ = some (.int .i64 ((rd_T159 l1 x25_2).f3)) := (blk_cell BK550.out 3).trans rfl
                                      have hfz35_0 := blk_frozen BK550.out 0
                                      have hfz35_1 := blk_frozen BK550.out 1
                                      have hfz35_2 := blk_frozen BK550.out 2
                                      have hfz35_3 := blk_frozen BK550.out 3
                                      go_wp2
                                      go_ret
                                      exact ⟨by first | rfl | (simp [errW_none, errW_some] <;> rfl) | (simp only [← hji33]; first | rfl | (simp [errW_none, errW_some] <;> rfl)) | (simp [*, errW_none, errW_some] <;> rfl), by repeat (first | (with_reducible first | exact HB.out | apply below_alloc | apply pw_below_drewN | apply below_drew1 | refine below_set ?_ GE550.out) | exact HB.out)⟩
                                    · rw [if_neg c34] at H
                                      have c34b0 : decide ((ji33) < 0) = false := decide_eq_false c34
                                      clear c34
                                      obtain ⟨ji36, hji36⟩ : ∃ j_ : Int, (mx ((rd_T159 l1 x25_2).f1) ((rd_T159 l1 x25_2).f2)) = j_ := ⟨_, rfl⟩
                                      replace H : (if (ji36) ≥ x25_2 then (some 2) else (term_Check.l0 kj23 a0 l1 (l1.length : Int) (wrap64 (x25_2 + 1)))) = some r := by first | (rw [hji36] at H; exact H) | (simp only [hji36] at H ⊢; exact H)
                                      have hji36_ : (if ((rd_T159 l1 x25_2).f1) < ((rd_T159 l1 x25_2).f2) then ((rd_T159 l1 x25_2).f2) else ((rd_T159 l1 x25_2).f1)) = ji36 := hji36
                                      by_cases c37 : (ji36) ≥ x25_2
                                      · rw [if_pos c37] at H
                                        have c37b0 : decide (x25_2 ≤ (ji36)) = true := decide_eq_true c37
                                        clear c37
                                        obtain rfl := Option.some.inj H
                                        have hcz38_0 : wc.cell? ⟨gb550, 0, none⟩ = some (.int .i64 ((rd_T159 l1 x25_2).f0)) := (blk_cell BK550.out 0).trans rfl
                                        have hcz38_1 : wc.cell? ⟨gb550, 1, none⟩ = some (.int .i64 ((rd_T159 l1 x25_2).f1)) := (blk_cell BK550.out 1).trans rfl
                                        have hcz38_2 : wc.cell? ⟨gb550, 2, none⟩ = some (.int .i64 ((rd_T159 l1 x25_2).f2)) := (blk_cell BK550.out 2).trans rfl
                                        have hcz38_3 : wc.cell? ⟨gb550, 3, none⟩ = some (.int .i64 ((rd_T159 l1 x25_2).f3)) := (blk_cell BK550.out 3).trans rfl
                                        have hfz38_0 := blk_frozen BK550.out 0
                                        have hfz38_1 := blk_frozen BK550.out 1
                                        have hfz38_2 := blk_frozen BK550.out 2
                                        have hfz38_3 := blk_frozen BK550.out 3
                                        go_wp2
                                        go_ret
                                        exact ⟨by first | rfl | (simp [errW_none, errW_some] <;> rfl) | (simp only [← hji33, ← hji36]; first | rfl | (simp [errW_none, errW_some] <;> rfl)) | (simp [*, errW_none, errW_some] <;> rfl), by repeat (first | (with_reducible first | exact HB.out | apply below_alloc | apply pw_below_drewN | apply below_drew1 | refine below_set ?_ GE550.out) | exact HB.out)⟩
                                      · rw [if_neg c37] at H
                                        have c37b0 : decide (x25_2 ≤ (ji36)) = false := decide_eq_false c37
                                        clear c37
                                        have H' := Aside0.mk H
                                        clear H
                                        have hcz39_0 : wc.cell? ⟨gb550, 0, none⟩ = some (.int .i64 ((rd_T159 l1 x25_2).f0)) := (blk_cell BK550.out 0).trans rfl
                                        have hcz39_1 : wc.cell? ⟨gb550, 1, none⟩ = some (.int .i64 ((rd_T159 l1 x25_2).f1)) := (blk_cell BK550.out 1).trans rfl
                                        have hcz39_2 : wc.cell? ⟨gb550, 2, none⟩ = some (.int .i64 ((rd_T159 l1 x25_2).f2)) := (blk_cell BK550.out 2).trans rfl
                                        have hcz39_3 : wc.cell? ⟨gb550, 3, none⟩ = some (.int .i64 ((rd_T159 l1 x25_2).f3)) := (blk_cell BK550.out 3).trans rfl
                                        have hfz39_0 := blk_frozen BK550.out 0
                                        have hfz39_1 := blk_frozen BK550.out 1
                                        have hfz39_2 := blk_frozen BK550.out 2
                                        have hfz39_3 := blk_frozen BK550.out 3
                                        go_wp2
                                        go_roundg kj23
                                        case measure => have := HJ2.out; have := HK2.out; have := HJ10.out; have := HJ17.out; have := HJ23.out; omega
                                        case rel => exact ⟨(wrap64 (x25_2 + 1)), (by first | rfl | (simp; done) | (simp [*]; done)), H', ⟨by have := HJ2.out; have := HK2.out; have := HJ10.out; have := HJ17.out; have := HJ23.out; omega⟩, ⟨by repeat (first | (with_reducible first | exact HB.out | apply below_alloc | apply pw_below_drewN | apply below_drew1 | refine below_set ?_ GE550.out) | exact HB.out)⟩⟩
                                  · rw [if_neg c32] at H
                                    have c32b0 : decide (2 < ((rd_T159 l1 x25_2).f0)) = false := decide_eq_false c32
                                    clear c32
                                    have H' := Aside0.mk H
                                    clear H
                                    have hcz40_0 : wc.cell? ⟨gb550, 0, none⟩ = some (.int .i64 ((rd_T159 l1 x25_2).f0)) := (blk_cell BK550.out 0).trans rfl
                                    have hcz40_1 : wc.cell? ⟨gb550, 1, none⟩ = some (.int .i64 ((rd_T159 l1 x25_2).f1)) := (blk_cell BK550.out 1).trans rfl
                                    have hcz40_2 : wc.cell? ⟨gb550, 2, none⟩ = some (.int .i64 ((rd_T159 l1 x25_2).f2)) := (blk_cell BK550.out 2).trans rfl
                                    have hcz40_3 : wc.cell? ⟨gb550, 3, none⟩ = some (.int .i64 ((rd_T159 l1 x25_2).f3)) := (blk_cell BK550.out 3).trans rfl
                                    have hfz40_0 := blk_frozen BK550.out 0
                                    have hfz40_1 := blk_frozen BK550.out 1
                                    have hfz40_2 := blk_frozen BK550.out 2
                                    have hfz40_3 := blk_frozen BK550.out 3
                                    go_wp2
                                    go_roundg kj23
                                    case measure => have := HJ2.out; have := HK2.out; have := HJ10.out; have := HJ17.out; have := HJ23.out; omega
                                    case rel => exact ⟨(wrap64 (x25_2 + 1)), (by first | rfl | (simp; done) | (simp [*]; done)), H', ⟨by have := HJ2.out; have := HK2.out; have := HJ10.out; have := HJ17.out; have := HJ23.out; omega⟩, ⟨by repeat (first | (with_reducible first | exact HB.out | apply below_alloc | apply pw_below_drewN | apply below_drew1 | refine below_set ?_ GE550.out) | exact HB.out)⟩⟩
                · rw [if_neg c10] at H
                  exact absurd H (by simp)
              · rw [if_neg c9] at H
                exact absurd H (by simp)
            · rw [if_neg c8] at H
              have c8b0 : decide (x25_2 < (l1.length : Int)) = false := decide_eq_false c8
              clear c8
              obtain rfl := Option.some.inj H
              go_wp2
              go_ret
              exact ⟨by first | rfl | (simp [errW_none, errW_some] <;> rfl) | (simp [*, errW_none, errW_some] <;> rfl), by repeat (first | (with_reducible first | exact HB.out | apply below_alloc | apply pw_below_drewN | apply below_drew1) | exact HB.out)⟩

end Go.Proofs.Ytaicamjpcnhjcaa.PA
