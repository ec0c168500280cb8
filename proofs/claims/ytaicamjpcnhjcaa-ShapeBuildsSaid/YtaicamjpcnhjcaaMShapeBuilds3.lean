/- Texts of one proof, merged: Pu0, Pu3, PA33, Pu2, PA81, PA31, PA32, PA105, PA83. -/
import Derived.Test.YtaicamjpcnhjcaaMShapeBuilds2
namespace Go.Proofs.Ytaicamjpcnhjcaa.PA
open Go.RowKit Go.Proofs.YtaicamjpcnhjcaaW.PrintWords Go.Proofs.YtaicamjpcnhjcaaW.PrintLast
set_option linter.unusedVariables false
set_option linter.unusedSimpArgs false
theorem ev_succ {α : Type} {g : Nat → Option α} {r : α} (h : Ev (fun k => g (k + 1)) r) : Ev g r := by
  obtain ⟨K, h⟩ := h
  exact ⟨K + 1, fun k hk => by
    obtain ⟨m, rfl⟩ : ∃ m, k = m + 1 := ⟨k - 1, by omega⟩
    exact h m (by omega)⟩
theorem ev_ite {α : Type} {c : Prop} [Decidable c] {g f : Nat → Option α} {r : α} (h : c → Ev g r) (k : ¬ c → Ev f r) : Ev (fun n => if c then g n else f n) r := by
  by_cases hc : c
  · simp only [if_pos hc]; exact h hc
  · simp only [if_neg hc]; exact k hc
theorem ev_pos {α : Type} {c : Prop} [Decidable c] {g f : Nat → Option α} {r : α} (hc : c) (h : Ev g r) : Ev (fun n => if c then g n else f n) r := by simp only [if_pos hc]; exact h
theorem ev_neg {α : Type} {c : Prop} [Decidable c] {g f : Nat → Option α} {r : α} (hc : ¬ c) (h : Ev f r) : Ev (fun n => if c then g n else f n) r := by simp only [if_neg hc]; exact h
theorem ev_some {α : Type} {a r : α} (h : a = r) : Ev (fun _ => some a) r := by rw [h]; exact Ev.now r
theorem ev_eq {α : Type} {g : Nat → Option α} {a r : α} (h : Ev g a) (e : a = r) : Ev g r := e ▸ h
theorem down_ind {n : Nat} {P : Nat → Prop} (h0 : P n) (hs : ∀ i, i < n → P (i + 1) → P i) : ∀ i, i ≤ n → P i := by
  have key : ∀ d i, i + d = n → P i := by
    intro d
    induction d with
    | zero => intro i hi; obtain rfl : i = n := by omega
              exact h0
    | succ d ih => intro i hi; exact hs i (by omega) (ih (i + 1) (by omega))
  intro i hi
  exact key (n - i) i (by omega)
theorem rd_nat (l : List Int) (i : Nat) : rd l (i : Int) = l.getD i 0 := rfl
theorem rdT111_nat (l : List S111) (i : Nat) : rd_T111 l (i : Int) = l.getD i z111 := rfl
theorem rdT79_nat (l : List S79) (i : Nat) : rd_T79 l (i : Int) = l.getD i z79 := rfl
theorem rdT127_nat (l : List S127) (i : Nat) : rd_T127 l (i : Int) = l.getD i z127 := rfl
theorem wrap_in {x : Int} (h1 : -9223372036854775808 ≤ x) (h2 : x ≤ 9223372036854775807) : wrap64 x = x := by unfold wrap64; omega
theorem wrap_nat {i n : Nat} (h : i < n) (hn : n ≤ 9223372036854775807) : wrap64 ((i : Int) + 1) = ((i + 1 : Nat) : Int) := by unfold wrap64; omega
end Go.Proofs.Ytaicamjpcnhjcaa.PA
namespace Go.Proofs.Ytaicamjpcnhjcaa.PA
open Go.RowKit Go.Proofs.YtaicamjpcnhjcaaW.PrintWords Go.Proofs.YtaicamjpcnhjcaaW.PrintLast
set_option linter.unusedVariables false
set_option linter.unusedSimpArgs false
theorem inside_ev (n : Int) (l : List Int) (hl : l.length ≤ 9223372036854775807) : Ev (fun k => codemasonref_Inside.f k n l) (l.all fun x => decide (0 ≤ x) && decide (x < n)) := by
  unfold codemasonref_Inside.f
  have key := down_ind (n := l.length) (P := fun i => Ev (fun k => codemasonref_Inside.l0 k n l l.length i) ((l.drop i).all fun x => decide (0 ≤ x) && decide (x < n))) ?_ ?_ 0 (by omega)
  · exact key
  · refine ev_succ ?_
    simp only [codemasonref_Inside.l0, List.drop_length]
    exact ev_neg (by omega) (Ev.now _)
  · intro i hi ih
    refine ev_succ ?_
    simp only [codemasonref_Inside.l0, wrap_nat hi hl, drop_at 0 hi, List.all_cons, ← rd_nat]
    refine ev_pos (by omega) (ev_pos (by omega) (ev_pos (by omega) ?_))
    generalize rd l i = x
    refine ev_ite (fun h => ev_some ?_) (fun h => ev_ite (fun h2 => ev_some ?_) (fun h2 => ev_eq ih ?_))
    · rw [decide_eq_false (by omega)]; rfl
    · rw [decide_eq_false (show ¬ x < n by omega), Bool.and_false]; rfl
    · rw [decide_eq_true (show 0 ≤ x by omega), decide_eq_true (show x < n by omega)]; rfl
theorem inside1_ev (n x : Int) : Ev (fun k => codemasonref_Inside.f k n [x]) (decide (0 ≤ x ∧ x < n)) := ev_eq (inside_ev n [x] (by simp)) (by simp)
theorem inside2_ev (n x y : Int) : Ev (fun k => codemasonref_Inside.f k n [x, y]) (decide ((0 ≤ x ∧ x < n) ∧ 0 ≤ y ∧ y < n)) := ev_eq (inside_ev n [x, y] (by simp)) (by simp)
theorem value_eq (x : Int) : codemasonref_Value.f x = some (decide (0 ≤ x ∧ x ≤ 255)) := by
  unfold codemasonref_Value.f
  split <;> simp <;> omega
end Go.Proofs.Ytaicamjpcnhjcaa.PA
namespace Go.Proofs.Ytaicamjpcnhjcaa.PA
open Go.RowKit Go.Proofs.YtaicamjpcnhjcaaW.PrintWords Go.Proofs.YtaicamjpcnhjcaaW.PrintLast Go.Proofs.YtaicamjpcnhjcaaW.PrintMore
set_option linter.unusedVariables false
set_option linter.unusedSimpArgs false
def codemasonref_HaveCheck.l0 : Nat → List Int → Int → Int → Option (Int)
  | 0, _, _, _ => none
  | k + 1, x11, x12, x13 => if x13 < x12 then (if 0 ≤ x13 then (if x13 < (x11.length : Int) then ((codemasonref_Value.f (rd x11 x13)).bind fun t288 => (if t288 = true then (codemasonref_HaveCheck.l0 k x11 x12 (wrap64 (x13 + 1))) else (some 4))) else (none)) else (none)) else (some 0)
def codemasonref_HaveCheck.f (k : Nat) (a0 : Int) (l1 : List Int) : Option (Int) := if (l1.length : Int) = a0 then (codemasonref_HaveCheck.l0 k l1 (l1.length : Int) 0) else (some 3)
theorem codemasonref_HaveCheck.mono_l : ∀ k, (∀ y0 y1 y2, LeO (codemasonref_HaveCheck.l0 k y0 y1 y2) (codemasonref_HaveCheck.l0 (k + 1) y0 y1 y2))
  | 0 => fun _ _ _ r h => by simp [codemasonref_HaveCheck.l0] at h
  | k + 1 => by
    have ih0 := codemasonref_HaveCheck.mono_l k
    · intro y0 y1 y2
      unfold codemasonref_HaveCheck.l0
      repeat' first
      | (with_reducible exact ih0 _ _ _)
      | (with_reducible exact LeO.refl _)
      | (with_reducible exact LeO.none _)
      | (with_reducible refine LeO.ite ?_ ?_)
      | (with_reducible refine LeO.bind ?_ (fun _ => ?_))
      | exact ih0 _ _ _
      | exact LeO.none _
      | refine LeO.ite ?_ ?_
      | refine LeO.bind ?_ (fun _ => ?_)
theorem codemasonref_HaveCheck.mono : ∀ a0 a1 k, LeO (codemasonref_HaveCheck.f k a0 a1) (codemasonref_HaveCheck.f (k + 1) a0 a1) := by
  intro a0 a1 k
  have ih0 := codemasonref_HaveCheck.mono_l k
  unfold codemasonref_HaveCheck.f
  repeat' first
      | (with_reducible exact ih0 _ _ _)
      | (with_reducible exact LeO.refl _)
      | (with_reducible exact LeO.none _)
      | (with_reducible refine LeO.ite ?_ ?_)
      | (with_reducible refine LeO.bind ?_ (fun _ => ?_))
      | exact ih0 _ _ _
      | exact LeO.none _
      | refine LeO.ite ?_ ?_
      | refine LeO.bind ?_ (fun _ => ?_)
set_option maxHeartbeats 8000000 in
set_option maxRecDepth 100000 in
theorem codemasonref_HaveCheck.calls (k : Nat) (a0 : Int) (A1 : Option Addr) (c1 : Nat) (l1 : List Int) (r : Int) (w : World) (hr1 : Kd.C (Kd.int .i64) w A1 l1.length l1) (hc1 : l1.length ≤ c1) (h : codemasonref_HaveCheck.f k a0 l1 = some r) :
    Calls Try.prog 33 #[.int .i64 a0, .slice A1 l1.length c1] w fun e w' => e = .returned (.int .i64 r) ∧ Drawn0 w w' := by
  have HR1 := Aside0.mk hr1
  have HC1 := Aside0.mk hc1
  clear hr1 hc1
  have H : (if (l1.length : Int) = a0 then (codemasonref_HaveCheck.l0 k l1 (l1.length : Int) 0) else (some 3)) = some r := h
  clear h
  by_cases c3 : (l1.length : Int) = a0
  · rw [if_pos c3] at H
    have c3b0 : ((l1.length : Int) == a0) = true := beq_iff_eq.mpr c3
    have c3b1 : ((l1.length : Int) != a0) = false := bne_eq_false_iff_eq.mpr c3
    clear c3
    have H' := Aside0.mk H
    clear H
    go_enter Try.func33, Try.ntmps33
    go_wp2
    go_loopg [13] k (fun kq v13 w' => ∃ (x13_1 : Int), v13 = .int .i64 x13_1 ∧ Aside0 (codemasonref_HaveCheck.l0 kq l1 (l1.length : Int) x13_1 = some r) ∧ Aside0 (kq ≤ k) ∧ Drawn0 w w')
    case atStart => exact ⟨(0), (by first | rfl | (simp; done) | (simp [*]; done)), H', ⟨Nat.le_refl _⟩, by repeat (first | exact Drawn0.refl _ | apply Drawn0.step)⟩
    case round =>
      clear H'
      try clear c1
      try clear p2
      try clear c3
      try clear c3b0
      try clear c3b1
      obtain ⟨x13_1, rfl, HA, HK1, ⟨m1, rfl⟩⟩ := hrel
      cases gk with
      | zero => exact absurd HA.out (by simp [codemasonref_HaveCheck.l0])
      | succ k1 =>
        have H := HA.out
        clear HA
        simp only [codemasonref_HaveCheck.l0] at H
        by_cases c4 : x13_1 < (l1.length : Int)
        · rw [if_pos c4] at H
          have c4b0 : decide (x13_1 < (l1.length : Int)) = true := decide_eq_true c4
          clear c4
          by_cases c5 : 0 ≤ x13_1
          · rw [if_pos c5] at H
            have c5b0 : decide (0 ≤ x13_1) = true := decide_eq_true c5
            clear c5
            by_cases c6 : x13_1 < (l1.length : Int)
            · rw [if_pos c6] at H
              have c6b0 : decide (x13_1 < (l1.length : Int)) = true := decide_eq_true c6
              clear c6
              replace H := Option.bind_eq_some_iff.mp H
              obtain ⟨t288, A70, H⟩ := H
              replace H : (if t288 = true then (codemasonref_HaveCheck.l0 k1 l1 (l1.length : Int) (wrap64 (x13_1 + 1))) else (some 4)) = some r := H
              have A7 := Aside0.mk A70
              clear A70
              by_cases c8 : t288 = true
              · subst c8
                have H1 : (codemasonref_HaveCheck.l0 k1 l1 (l1.length : Int) (wrap64 (x13_1 + 1))) = some r := by rw [if_pos rfl] at H; exact H
                clear H
                have H := H1
                clear H1
                have H' := Aside0.mk H
                clear H
                have p287 : 0 ≤ (x13_1 : Int) := of_decide_eq_true (by first | (with_reducible assumption) | assumption)
                have q287 : x13_1 < (l1.length : Int) := of_decide_eq_true (by first | (with_reducible assumption) | assumption)
                obtain ⟨ad287, e287, hx287_0⟩ := Kd.at_int HR1.out x13_1 p287 q287
                cases e287
                replace p287 := eq_true p287
                replace q287 := eq_true q287
                go_wp2_with (first | ((with_reducible refine gate_callee (f := 82) rfl ?_); refine goesL_ (some 18) rfl rfl Try.func82 (by kernel_rfl) rfl #[.int .i64 (rd l1 x13_1)] rfl (by (try simp only [List.map_toArray, List.map_cons, List.map_nil]); first | done | rfl | (simp only [List.length_drop, List.length_take]; rfl)) ?_; (with_reducible refine (codemasonref_Value.calls (rd l1 x13_1) true _ A7.out).mono ?_); rintro e w' ⟨rfl, ⟨nd, rfl⟩⟩; refine ⟨_, rfl, ?_⟩))
                go_roundg k1
                case measure => have := HK1.out; omega
                case rel => exact ⟨(wrap64 (x13_1 + 1)), (by first | rfl | (simp; done) | (simp [*]; done)), H', ⟨by have := HK1.out; omega⟩, by repeat (first | exact Drawn0.refl _ | apply Drawn0.step)⟩
              · replace c8 := Bool.eq_false_iff.mpr c8
                subst c8
                have H1 : (some 4) = some r := by rw [if_neg (show ¬ (false = true) by decide)] at H; exact H
                clear H
                have H := H1
                clear H1
                obtain rfl := Option.some.inj H
                have p287 : 0 ≤ (x13_1 : Int) := of_decide_eq_true (by first | (with_reducible assumption) | assumption)
                have q287 : x13_1 < (l1.length : Int) := of_decide_eq_true (by first | (with_reducible assumption) | assumption)
                obtain ⟨ad287, e287, hx287_0⟩ := Kd.at_int HR1.out x13_1 p287 q287
                cases e287
                replace p287 := eq_true p287
                replace q287 := eq_true q287
                go_wp2_with (first | ((with_reducible refine gate_callee (f := 82) rfl ?_); refine goesL_ (some 18) rfl rfl Try.func82 (by kernel_rfl) rfl #[.int .i64 (rd l1 x13_1)] rfl (by (try simp only [List.map_toArray, List.map_cons, List.map_nil]); first | done | rfl | (simp only [List.length_drop, List.length_take]; rfl)) ?_; (with_reducible refine (codemasonref_Value.calls (rd l1 x13_1) false _ A7.out).mono ?_); rintro e w' ⟨rfl, ⟨nd, rfl⟩⟩; refine ⟨_, rfl, ?_⟩))
                go_ret
                exact ⟨by first | rfl | (simp; done) | (simp [*]; done), by repeat (first | exact Drawn0.refl _ | apply Drawn0.step)⟩
            · rw [if_neg c6] at H
              exact absurd H (by simp)
          · rw [if_neg c5] at H
            exact absurd H (by simp)
        · rw [if_neg c4] at H
          have c4b0 : decide (x13_1 < (l1.length : Int)) = false := decide_eq_false c4
          clear c4
          obtain rfl := Option.some.inj H
          go_wp2
          go_ret
          exact ⟨by first | rfl | (simp; done) | (simp [*]; done), by repeat (first | exact Drawn0.refl _ | apply Drawn0.step)⟩
  · rw [if_neg c3] at H
    have c3b0 : ((l1.length : Int) == a0) = false := beq_eq_false_iff_ne.mpr c3
    have c3b1 : ((l1.length : Int) != a0) = true := bne_iff_ne.mpr c3
    obtain rfl := Option.some.inj H
    go_enter Try.func33, Try.ntmps33
    go_wp2
    go_ret
    exact ⟨by first | rfl | (simp; done) | (simp [*]; done), by repeat (first | exact Drawn0.refl _ | apply Drawn0.step)⟩
end Go.Proofs.Ytaicamjpcnhjcaa.PA
namespace Go.Proofs.Ytaicamjpcnhjcaa.PA
open Go.RowKit Go.Proofs.YtaicamjpcnhjcaaW.PrintWords Go.Proofs.YtaicamjpcnhjcaaW.PrintLast
set_option linter.unusedVariables false
set_option linter.unusedSimpArgs false
theorem insB_eq (v i : Int) : insB v i = decide (0 ≤ i ∧ i < v) := by simp [insB]
theorem stepCheck_ev (v op c a b x : Int) : Ev (fun k => codemasonref_StepCheck.f k v v op c a b x) (stepE v op c a b x) := by
  unfold codemasonref_StepCheck.f
  have h1 : ∀ q : Bool, Ev (fun k => codemasonref_StepCheck.j1 k v q op c a b x) (if q = true then 4 else if insB v c = false ∨ op > 2 ∧ (insB v a = false ∨ insB v b = false) then 2 else 0) := fun q => by
    refine ev_succ ?_
    simp only [codemasonref_StepCheck.j1]
    refine ev_ite (fun h => ev_some (by rw [if_pos h])) (fun h => Ev.bind (inside1_ev _ _) (ev_ite (fun h2 => ev_ite (fun h3 => Ev.bind (inside2_ev _ _ _) (ev_ite (fun h4 => ev_some ?_) (fun h4 => ev_some ?_))) (fun h3 => ev_some ?_)) (fun h2 => ev_some ?_)))
    all_goals (simp only [insB_eq]; grind)
  have h0 : ∀ q : Bool, Ev (fun k => codemasonref_StepCheck.j0 k v v q op c a b x) (if q = true then 6 else if op = 1 ∧ (x < 0 ∨ x > 255) ∨ op = 2 ∧ insB v x = false then 4 else if insB v c = false ∨ op > 2 ∧ (insB v a = false ∨ insB v b = false) then 2 else 0) := fun q => by
    refine ev_succ ?_
    simp only [codemasonref_StepCheck.j0, value_eq, Option.bind_some]
    refine ev_ite (fun h => ev_some (by rw [if_pos h])) (fun h => ev_ite (fun h2 => ev_ite (fun h3 => ev_ite (fun h4 => absurd h4 (by omega)) (fun h4 => ev_eq (h1 _) ?_)) (fun h3 => ev_eq (h1 _) ?_)) (fun h2 => ev_ite (fun h3 => Ev.bind (inside1_ev _ _) (ev_eq (h1 _) ?_)) (fun h3 => ev_eq (h1 _) ?_)))
    all_goals (simp only [insB_eq]; grind)
  refine ev_ite (fun h => ev_eq (h0 _) ?_) (fun h => ev_eq (h0 _) ?_)
  all_goals (simp only [stepE]; grind)
theorem stepsErr_at' (v : Int) {l : List S111} {j : Nat} (h : j < l.length) : stepsErr v (l.drop j) = if stepE v (rd_T111 l j).f0 (rd_T111 l j).f1 (rd_T111 l j).f2 (rd_T111 l j).f3 (rd_T111 l j).f4 ≠ 0 then stepE v (rd_T111 l j).f0 (rd_T111 l j).f1 (rd_T111 l j).f2 (rd_T111 l j).f3 (rd_T111 l j).f4 else stepsErr v (l.drop (j + 1)) := stepsErr_at v h
theorem blocksErr_at' (v n : Int) {l : List S79} {j : Nat} (h : j < l.length) : blocksErr v n (l.drop j) = if blockErr v n (rd_T79 l j) ≠ 0 then blockErr v n (rd_T79 l j) else blocksErr v n (l.drop (j + 1)) := blocksErr_at v n h
theorem manyOf_at {l : List S79} {j : Nat} (h : j < l.length) (m : Int) : manyOf (l.drop j) m = manyOf (l.drop (j + 1)) (wrap64 (m + (rd_T79 l j).f0.length)) := by rw [drop_at z79 h]; rfl
theorem progCheck_ev (v : Int) (l : List S79) (hl : l.length ≤ 9223372036854775807) (hc : ∀ b ∈ l, b.f0.length ≤ 9223372036854775807) : Ev (fun k => codemasonref_ProgCheck.f k v l) (blockCheck v l) := by
  have key := down_ind (n := l.length) (P := fun i => 1 ≤ v → Ev (fun k => codemasonref_ProgCheck.l1 k v l l l.length i) (blocksErr v l.length (l.drop i))) ?_ ?_ 0 (by omega)
  · have h1 : v < 1 ∨ v > 6 ∨ l.length < 1 ∨ l.length > 8 ∨ manyOf l 0 > 20 → Ev (fun k => codemasonref_ProgCheck.j1 k v l true) (blockCheck v l) := fun h => by
      refine ev_succ ?_
      simp only [codemasonref_ProgCheck.j1, if_true]
      exact ev_some (by rw [blockCheck, if_pos h])
    have first := down_ind (n := l.length) (P := fun i => ∀ m, manyOf (l.drop i) m = manyOf l 0 → Ev (fun k => codemasonref_ProgCheck.l0 k v l m l l.length i) (blockCheck v l)) ?_ ?_ 0 (by omega)
    · exact first 0 rfl
    · intro m hm
      rw [List.drop_length, manyOf] at hm
      subst hm
      refine ev_succ ?_
      simp only [codemasonref_ProgCheck.l0]
      refine ev_neg (by omega) (ev_ite (fun h => h1 (by omega)) (fun h => ev_ite (fun h2 => h1 (by omega)) (fun h2 => ev_ite (fun h3 => h1 (by omega)) (fun h3 => ev_ite (fun h4 => h1 (by omega)) (fun h4 => ?_)))))
      refine ev_succ ?_
      simp only [codemasonref_ProgCheck.j1, decide_eq_true_eq]
      exact ev_ite (fun h5 => ev_some (by rw [blockCheck, if_pos (by omega)])) (fun h5 => ev_eq (key (by omega)) (by rw [blockCheck, if_neg (by omega)]; rfl))
    · intro i hi ih m hm
      rw [manyOf_at hi] at hm
      refine ev_succ ?_
      simp only [codemasonref_ProgCheck.l0, wrap_nat hi hl]
      exact ev_pos (by omega) (ev_pos (by omega) (ev_pos (by omega) (ih _ hm)))
  · intro hv
    refine ev_succ ?_
    simp only [codemasonref_ProgCheck.l1, List.drop_length]
    exact ev_neg (by omega) (Ev.now _)
  · intro i hi ih hv
    replace ih := ih hv
    have hcl : (rd_T79 l i).f0.length ≤ 9223372036854775807 := hc _ (by rw [rdT79_nat, List.getD_eq_getElem?_getD, List.getElem?_eq_getElem hi]; exact List.getElem_mem hi)
    refine ev_succ ?_
    simp only [codemasonref_ProgCheck.l1, blocksErr_at' v l.length hi]
    refine ev_pos (by omega) (ev_pos (by omega) (ev_pos (by omega) ?_))
    generalize rd_T79 l i = b at hcl
    have h5 : ∀ q : Bool, Ev (fun k => codemasonref_ProgCheck.j5 k v l l l.length i q b.f0 b.f1 b.f2 b.f3) (if q = true then 3 else if b.f1 ≥ 0 ∧ ¬ ((0 ≤ b.f2 ∧ b.f2 < l.length) ∧ 0 ≤ b.f3 ∧ b.f3 < l.length) then 3 else blocksErr v l.length (l.drop (i + 1))) := fun q => by
      refine ev_succ ?_
      simp only [codemasonref_ProgCheck.j5, wrap_nat hi hl]
      refine ev_ite (fun h => ev_some (by rw [if_pos h])) (fun h => ev_ite (fun h2 => Ev.bind (inside2_ev _ _ _) (ev_ite (fun h3 => ev_eq ih ?_) (fun h3 => ev_some ?_))) (fun h2 => ev_eq ih ?_))
      all_goals grind
    have h4 : ∀ q : Bool, Ev (fun k => codemasonref_ProgCheck.j4 k v l l l.length i q b.f0 b.f1 b.f2 b.f3) (if q = true then 2 else if b.f1 = -1 ∧ b.f2 ≠ -1 ∧ ¬ (0 ≤ b.f2 ∧ b.f2 < l.length) ∨ b.f1 ≥ 0 ∧ ¬ ((0 ≤ b.f2 ∧ b.f2 < l.length) ∧ 0 ≤ b.f3 ∧ b.f3 < l.length) then 3 else blocksErr v l.length (l.drop (i + 1))) := fun q => by
      refine ev_succ ?_
      simp only [codemasonref_ProgCheck.j4]
      refine ev_ite (fun h => ev_some (by rw [if_pos h])) (fun h => ev_ite (fun h2 => ev_ite (fun h3 => ev_eq (h5 _) ?_) (fun h3 => Ev.bind (inside1_ev _ _) (ev_eq (h5 _) ?_))) (fun h2 => ev_eq (h5 _) ?_))
      all_goals grind
    have inner := down_ind (n := b.f0.length) (P := fun j => stepsErr v b.f0 = stepsErr v (b.f0.drop j) → Ev (fun k => codemasonref_ProgCheck.l2 k v l l l.length i b.f0 b.f0.length j b.f0 b.f1 b.f2 b.f3) (if blockErr v l.length b ≠ 0 then blockErr v l.length b else blocksErr v l.length (l.drop (i + 1)))) ?_ ?_ 0 (by omega)
    · exact inner rfl
    · intro hs
      rw [List.drop_length] at hs
      have hs0 : stepsErr v b.f0 = 0 := hs
      refine ev_succ ?_
      simp only [codemasonref_ProgCheck.l2, blockErr, hs0]
      refine ev_neg (by omega) (ev_ite (fun h => ev_eq (h4 _) ?_) (fun h => Ev.bind (inside1_ev _ _) (ev_eq (h4 _) ?_)))
      all_goals (simp only [insB_eq]; grind)
    · intro j hj ih2 hs
      rw [stepsErr_at' v hj] at hs
      refine ev_succ ?_
      simp only [codemasonref_ProgCheck.l2, wrap_nat hj hcl]
      refine ev_pos (by omega) (ev_pos (by omega) (ev_pos (by omega) (Ev.bind (stepCheck_ev _ _ _ _ _ _) (ev_ite (fun h => ih2 ?_) (fun h => ev_some ?_)))))
      · rw [hs, if_neg (by simpa using h)]
      · rw [if_pos h] at hs
        have hb : blockErr v l.length b = stepsErr v b.f0 := by unfold blockErr; rw [if_pos (by rw [hs]; exact h)]
        rw [hb, hs, if_pos h]
def haveErr (v : Int) (l : List Int) : Int := if (l.length : Int) ≠ v then 3 else if (l.all fun x => decide (0 ≤ x ∧ x ≤ 255)) = true then 0 else 4
theorem haveCheck_ev (v : Int) (l : List Int) (hl : l.length ≤ 9223372036854775807) : Ev (fun k => codemasonref_HaveCheck.f k v l) (haveErr v l) := by
  have key := down_ind (n := l.length) (P := fun i => Ev (fun k => codemasonref_HaveCheck.l0 k l l.length i) (if ((l.drop i).all fun x => decide (0 ≤ x ∧ x ≤ 255)) = true then 0 else 4)) ?_ ?_ 0 (by omega)
  · unfold codemasonref_HaveCheck.f haveErr
    exact ev_ite (fun h => ev_eq key (by rw [if_neg (c := ((l.length : Int) ≠ v)) (by omega), List.drop_zero])) (fun h => ev_some (by rw [if_pos h]))
  · refine ev_succ ?_
    simp only [codemasonref_HaveCheck.l0, List.drop_length]
    exact ev_neg (by omega) (Ev.now _)
  · intro i hi ih
    refine ev_succ ?_
    simp only [codemasonref_HaveCheck.l0, wrap_nat hi hl, drop_at 0 hi, List.all_cons, ← rd_nat, value_eq, Option.bind_some]
    generalize rd l i = x
    refine ev_pos (by omega) (ev_pos (by omega) (ev_pos (by omega) (ev_ite (fun h => ev_eq ih ?_) (fun h => ev_some ?_))))
    · rw [h, Bool.true_and]
    · rw [Bool.not_eq_true] at h; rw [h]; rfl
end Go.Proofs.Ytaicamjpcnhjcaa.PA
namespace Go.Proofs.Ytaicamjpcnhjcaa.PA
open Go.RowKit Go.Proofs.YtaicamjpcnhjcaaW.PrintWords Go.Proofs.YtaicamjpcnhjcaaW.PrintLast Go.Proofs.YtaicamjpcnhjcaaW.PrintMore
set_option linter.unusedVariables false
set_option linter.unusedSimpArgs false
def kindOwn (v : Int) (x : S127) : Int :=
  if x.f0 ≠ 1 ∧ x.f0 ≠ 2 ∧ x.f0 ≠ 3 then 6 else if x.f0 = 1 then stepsErr v x.f2 else if 0 ≤ x.f1 ∧ x.f1 < v then 0 else 2
def codemasonref_shapeKinds.f : Nat → Int → List S127 → Option Int
  | 0, _, _ => none
  | k + 1, v, l => shapesLoop (kindOwn v) (fun p => codemasonref_shapeKinds.f k v p) l
theorem codemasonref_shapeKinds.mono : ∀ a0 a1 k, LeO (codemasonref_shapeKinds.f k a0 a1) (codemasonref_shapeKinds.f (k + 1) a0 a1) := fun a0 a1 k => by
  induction k generalizing a0 a1 with
  | zero => intro r h; cases h
  | succ k ih =>
    rw [codemasonref_shapeKinds.f, codemasonref_shapeKinds.f]
    exact shapesLoop_mono (fun p => ih _ p) _
set_option maxRecDepth 100000 in
set_option maxHeartbeats 4000000 in
theorem codemasonref_shapeKinds.calls : ∀ (k : Nat) (a0 : Int) (A1 : Option Addr) (c1 : Nat) (l1 : List S127) (r : Int) (w : World) (hr1 : Kd.C k127 w A1 l1.length l1) (hc1 : l1.length ≤ c1) (h : codemasonref_shapeKinds.f k a0 l1 = some r),
    Calls Try.prog 81 #[.int .i64 a0, .slice A1 l1.length c1] w fun e w' => e = .returned (.int .i64 r) ∧ Below w.heap.size w w' := by
  intro k
  induction k with
  | zero => intro _ _ _ _ _ _ _ _ h; simp [codemasonref_shapeKinds.f] at h
  | succ k ih =>
    intro a0 A1 c1 l1 r w hr1 hc1 h
    have IH := Aside0.mk ih
    clear ih
    have hl := hr1.2.1
    have HR := Aside0.mk hr1
    clear hr1
    rw [codemasonref_shapeKinds.f] at h
    have HA := Aside0.mk h
    generalize hgo : (fun p => codemasonref_shapeKinds.f k a0 p) = go at HA
    have Hgo := Aside0.mk hgo
    clear h hgo
    go_enter Try.func81, Try.ntmps81
    go_wp2_with fail
    go_loopw [15] (fun i wr => ∃ j : Nat, j ≤ l1.length ∧ i = .int .i64 j ∧ Aside0 (shapesLoop (kindOwn a0) go (l1.drop j) = some r) ∧ Aside0 (Below w.heap.size w wr)) (fun i _ => l1.length - (intOf i).toNat)
    case atStart => exact ⟨0, by omega, rfl, HA, ⟨Below.refl _ _⟩⟩
    case round =>
      obtain ⟨j, hj, rfl, HL, HB⟩ := hrel
      by_cases hjt : j < l1.length
      · obtain ⟨ad, A2, c2, A3, c3, A4, c4, e0, h0, h1, h2, h3, h4, lc2, hC2, lc3, hC3, lc4, hC4⟩ := T127_at (Kd.C_below HR.out HB.out) j hjt
        cases e0
        have hL := HL.out
        rw [shapesLoop_at _ _ hjt] at hL
        generalize l1.getD j z127 = x at h0 h1 h2 h3 h4 lc2 hC2 lc3 hC3 lc4 hC4 hL
        have L2 := hC2.2.1
        have L3 := hC3.2.1
        have L4 := hC4.2.1
        have H2 := Aside0.mk hC2
        have H3 := Aside0.mk hC3
        have H4 := Aside0.mk hC4
        have Hc2 := Aside0.mk lc2
        have Hc3 := Aside0.mk lc3
        have Hc4 := Aside0.mk lc4
        clear hC2 hC3 hC4 lc2 lc3 lc4
        obtain ⟨wo, ho⟩ : ∃ wo : World, wo = wr := ⟨_, rfl⟩
        subst ho
        by_cases hk : x.f0 = 1
        · have hkb : (x.f0 == 1) = true := by simp [hk]
          have hkc : (x.f0 != 1) = false := by simp [hk]
          have how : kindOwn a0 x = stepsErr a0 x.f2 := by unfold kindOwn; rw [if_neg (by omega), if_pos hk]
          rw [how] at hL
          have HLL := Aside0.mk hL
          clear hk how hL HL
          go_wp2_with fail
          go_loopw [38] (fun i w' => ∃ s : Nat, s ≤ x.f2.length ∧ i = .int .i64 s ∧ Aside0 (stepsErr a0 (x.f2.drop s) = stepsErr a0 x.f2) ∧ Aside0 (Below (wo.heap.size + 1) (wo.alloc (.cells #[.int .i64 x.f0, .int .i64 x.f1, .slice A2 x.f2.length c2, .slice A3 x.f3.length c3, .slice A4 x.f4.length c4] 127)) w')) (fun i _ => x.f2.length - (intOf i).toNat)
          case atStart => exact ⟨0, by omega, rfl, ⟨rfl⟩, ⟨Below.refl _ _⟩⟩
          case round =>
            clear h0 h1 h2 h3 h4
            obtain ⟨s, hs, rfl, HS0, Hb2⟩ := hrel
            have Hbo := Aside0.mk (below_box Hb2.out)
            by_cases hst : s < x.f2.length
            · obtain ⟨ad2, e2, g0, g1, g2, g3, g4⟩ := T111_at (Kd.C_below H2.out Hbo.out) s hst
              cases e2
              have hS := HS0.out
              rw [stepsErr_at _ hst] at hS
              generalize x.f2.getD s z111 = st at g0 g1 g2 g3 g4 hS
              obtain ⟨kk, hkk⟩ := (stepCheck_ev a0 st.f0 st.f1 st.f2 st.f3 st.f4).rounds
              have HK := Aside0.mk hkk
              clear hkk
              by_cases he : stepE a0 st.f0 st.f1 st.f2 st.f3 st.f4 = 0
              · rw [if_neg (by simpa using he)] at hS
                have heb : (stepE a0 st.f0 st.f1 st.f2 st.f3 st.f4 != 0) = false := by simp [he]
                have HS1 := Aside0.mk hS
                clear hS he HS0
                go_wp2_with (go_at_call 71; refine (codemasonref_StepCheck.calls kk _ _ _ _ _ _ _ _ _ HK.out).mono ?_; rintro e w2 ⟨rfl, hb2⟩)
                go_roundw
                case rel => exact ⟨s + 1, by omega, by go_num, HS1, ⟨below_alloc_then Hb2.out (box_size Hb2.out) hb2 (by have := box_size Hb2.out; simp; omega)⟩⟩
                case measure => simp [intOf]; omega
              · rw [if_pos he] at hS
                have hr : stepE a0 st.f0 st.f1 st.f2 st.f3 st.f4 = r := by
                  have h := HLL.out
                  rw [← hS, if_neg he] at h
                  exact Option.some.inj h
                have heb : (stepE a0 st.f0 st.f1 st.f2 st.f3 st.f4 != 0) = true := by simp [he]
                have HR2 := Aside0.mk hr
                clear hS he hr HS0
                go_wp2_with (go_at_call 71; refine (codemasonref_StepCheck.calls kk _ _ _ _ _ _ _ _ _ HK.out).mono ?_; rintro e w2 ⟨rfl, hb2⟩)
                go_ret
                exact ⟨ret_int HR2.out, HB.out.trans (below_alloc_then Hbo.out Hbo.out.size hb2 (by have := box_size Hb2.out; simp; omega) |>.mono HB.out.size)⟩
            · have hS := HS0.out
              rw [List.drop_of_length_le (by omega)] at hS
              have HL : Aside0 (((shapesParts go [x.f3, x.f4]).bind fun e => if e = 0 then shapesLoop (kindOwn a0) go (l1.drop (j + 1)) else some e) = some r) := ⟨by have h := HLL.out; rw [if_pos (show stepsErr a0 x.f2 = 0 from hS.symm)] at h; exact h⟩
              have h0 := box_cells Hb2.out 0 rfl
              have h1 := box_cells Hb2.out 1 rfl
              have h2 := box_cells Hb2.out 2 rfl
              have h3 := box_cells Hb2.out 3 rfl
              have h4 := box_cells Hb2.out 4 rfl
              obtain ⟨w2, ho2⟩ : ∃ w2 : World, w2 = wr := ⟨_, rfl⟩
              subst ho2
              have HW : Aside0 (Below w.heap.size w w2) := ⟨HB.out.trans (Hbo.out.mono HB.out.size)⟩
              have HW3 : Aside0 (k127.C w2 A3 x.f3.length x.f3) := ⟨Kd.C_below H3.out Hbo.out⟩
              have HW4 : Aside0 (k127.C w2 A4 x.f4.length x.f4) := ⟨Kd.C_below H4.out Hbo.out⟩
              clear hS HLL HS0
              go_wp2_with fail
              go_loopw [62] (fun i w' => ∃ t : Nat, t ≤ 2 ∧ i = .int .i64 t ∧ Aside0 ((shapesParts go ([x.f3, x.f4].drop t)).bind (fun e => if e = 0 then shapesLoop (kindOwn a0) go (l1.drop (j + 1)) else some e) = some r) ∧ Aside0 (Below (w2.heap.size + 1) ((w2).alloc (.cells #[.slice A3 x.f3.length c3, .slice A4 x.f4.length c4] 22)) w')) (fun i _ => 2 - (intOf i).toNat)
              case atStart => exact ⟨0, by omega, rfl, HL, ⟨Below.refl _ _⟩⟩
              case round =>
                clear HL h0 h1 h2 h3 h4
                obtain ⟨t, ht, rfl, HS, HB2⟩ := hrel
                have hB := HB2.out
                have hB3 : Below w.heap.size w wr := (HW.out.alloc HW.out.size _).trans (hB.mono (by have := HW.out.size; (try simp at this); omega))
                have hB4 : Below (w2).heap.size (w2) wr := ((Below.refl _ _).alloc (Nat.le_refl _) _).trans (hB.mono (by simp))
                have HB3 := Aside0.mk hB3
                by_cases ht2 : t < 2
                · have hrow : Kd.C (Kd.slice 127 k127) wr (some ⟨w2.heap.size, 0, none⟩) 2 [x.f3, x.f4] :=
                    two_rows ((hB.cell (p := ⟨w2.heap.size, 0, none⟩) (by simp)).trans (by simp [go_sem])) ((hB.cell (p := ⟨w2.heap.size, 1, none⟩) (by simp)).trans (by simp [go_sem])) Hc3.out Hc4.out (Kd.C_below HW3.out hB4) (Kd.C_below HW4.out hB4)
                  obtain ⟨ad2, Ap, cp, e2, g0, lp, hCp⟩ := L7_at hrow t ht2
                  simp only [Option.some.injEq] at e2
                  subst e2
                  rw [add_plain] at g0
                  have hS := HS.out
                  rw [shapesParts_at _ (by simpa using ht2), Option.bind_assoc] at hS
                  generalize [x.f3, x.f4].getD t [] = p at g0 lp hCp hS
                  obtain ⟨e, hp, hrest⟩ := Option.bind_eq_some_iff.1 hS
                  rw [← Hgo.out] at hp
                  have HP := Aside0.mk hp
                  have hlp := hCp.2.1
                  have HCp := Aside0.mk hCp
                  have Hlp := Aside0.mk lp
                  have hbb : w2.heap.size + 1 ≤ wr.heap.size := by have := hB.size; simp at this; omega
                  by_cases he : e = 0
                  · subst he
                    simp only [if_true] at hrest
                    have HQ := Aside0.mk hrest
                    clear hS HS hrow hrest hCp lp hB hp hB3 hB4
                    go_wp2_with (go_at_call 81; refine (IH.out _ _ _ _ _ _ HCp.out Hlp.out HP.out).mono ?_; rintro e w3 ⟨rfl, hb3⟩)
                    go_roundw
                    case rel => exact ⟨t + 1, by omega, by go_num, HQ, ⟨HB2.out.trans (hb3.mono hbb)⟩⟩
                    case measure => simp [intOf]; omega
                  · simp only [if_neg he, Option.bind_some, Option.some.injEq] at hrest
                    subst hrest
                    have heb : (e != 0) = true := by simp [he]
                    clear hS HS hrow hCp lp hB hp he hB3 hB4
                    go_wp2_with (go_at_call 81; refine (IH.out _ _ _ _ _ _ HCp.out Hlp.out HP.out).mono ?_; rintro e w3 ⟨rfl, hb3⟩)
                    go_ret
                    exact ⟨rfl, HB3.out.trans (hb3.mono HB3.out.size)⟩
                · have hS := HS.out
                  rw [List.drop_of_length_le (by simp; omega)] at hS
                  simp only [shapesParts, Option.bind_some, if_true] at hS
                  have HS' := Aside0.mk hS
                  clear hS hB hB3 hB4
                  go_wp2
                  go_roundw
                  case rel => exact ⟨j + 1, by omega, by go_num, HS', HB3⟩
                  case measure => simp [intOf]; omega
        · have hkb : (x.f0 == 1) = false := by simp [hk]
          have hkc : (x.f0 != 1) = true := by simp [hk]
          by_cases hk2 : x.f0 = 2 ∨ x.f0 = 3
          · have how : kindOwn a0 x = if 0 ≤ x.f1 ∧ x.f1 < a0 then 0 else 2 := by unfold kindOwn; rw [if_neg (by omega), if_neg hk]
            rw [how] at hL
            obtain ⟨kk, hkk⟩ := (inside1_ev a0 x.f1).rounds
            have HK := Aside0.mk hkk
            have hb2b : (x.f0 != 2) = true ∧ (x.f0 != 3) = false ∨ (x.f0 != 2) = false := by
              rcases hk2 with h | h
              · exact .inr (by simp [h])
              · exact .inl ⟨by simp [h], by simp [h]⟩
            have hbl : Below wo.heap.size wo ((wo.alloc (.cells #[.int .i64 x.f0, .int .i64 x.f1, .slice A2 x.f2.length c2, .slice A3 x.f3.length c3, .slice A4 x.f4.length c4] 127)).alloc (.cells #[.int .i64 x.f1] 3)) := ((Below.refl _ _).alloc (Nat.le_refl _) _).alloc (by simp) _
            have H3I : Aside0 (Kd.C (Kd.int .i64) ((wo.alloc (.cells #[.int .i64 x.f0, .int .i64 x.f1, .slice A2 x.f2.length c2, .slice A3 x.f3.length c3, .slice A4 x.f4.length c4] 127)).alloc (.cells #[.int .i64 x.f1] 3)) (some ⟨wo.heap.size + 1, 0, none⟩) 1 [x.f1]) := ⟨one_int (by simp [go_sem])⟩
            have Hbl := Aside0.mk hbl
            by_cases hi : 0 ≤ x.f1 ∧ x.f1 < a0
            · rw [if_pos hi, if_pos rfl] at hL
              rw [decide_eq_true hi] at HK
              replace HL := Aside0.mk hL
              clear hk hk2 how hL hkk hbl hi
              have go1 : Calls Try.prog 52 #[.int .i64 a0, .slice (some ⟨wo.heap.size + 1, 0, none⟩) 1 1] ((wo.alloc (.cells #[.int .i64 x.f0, .int .i64 x.f1, .slice A2 x.f2.length c2, .slice A3 x.f3.length c3, .slice A4 x.f4.length c4] 127)).alloc (.cells #[.int .i64 x.f1] 3)) (fun e w2 => e = .returned (.bool true) ∧ Below (wo.heap.size + 2) ((wo.alloc (.cells #[.int .i64 x.f0, .int .i64 x.f1, .slice A2 x.f2.length c2, .slice A3 x.f3.length c3, .slice A4 x.f4.length c4] 127)).alloc (.cells #[.int .i64 x.f1] 3)) w2) :=
                (codemasonref_Inside.calls kk a0 _ 1 [x.f1] true _ H3I.out (Nat.le_refl _) HK.out).mono (fun e w2 ⟨h1, h2⟩ => ⟨h1, h2.below.mono (by simp)⟩)
              have Go1 := Aside0.mk go1
              clear go1
              rcases hb2b with ⟨p2, p3⟩ | p2
              all_goals
                go_wp2_with fail
                refine Go1.out.mono ?_
                rintro e w2 ⟨rfl, hb2⟩
                have hb3 : Below (wo.heap.size + 1) (wo.alloc (.cells #[.int .i64 x.f0, .int .i64 x.f1, .slice A2 x.f2.length c2, .slice A3 x.f3.length c3, .slice A4 x.f4.length c4] 127)) w2 := ((Below.refl _ _).alloc (by simp) _).trans (hb2.mono (by omega))
                have g3 := box_cells hb3 3 rfl
                have g4 := box_cells hb3 4 rfl
                have hb4 := below_box hb3
                have HW : Aside0 (Below w.heap.size w w2) := ⟨HB.out.trans (hb4.mono HB.out.size)⟩
                have HW3 : Aside0 (k127.C w2 A3 x.f3.length x.f3) := ⟨Kd.C_below H3.out hb4⟩
                have HW4 : Aside0 (k127.C w2 A4 x.f4.length x.f4) := ⟨Kd.C_below H4.out hb4⟩
                clear hb2 hb3 hb4
                go_wp2_with fail
                go_loopw [62] (fun i w' => ∃ t : Nat, t ≤ 2 ∧ i = .int .i64 t ∧ Aside0 ((shapesParts go ([x.f3, x.f4].drop t)).bind (fun e => if e = 0 then shapesLoop (kindOwn a0) go (l1.drop (j + 1)) else some e) = some r) ∧ Aside0 (Below (w2.heap.size + 1) ((w2).alloc (.cells #[.slice A3 x.f3.length c3, .slice A4 x.f4.length c4] 22)) w')) (fun i _ => 2 - (intOf i).toNat)
                case atStart => exact ⟨0, by omega, rfl, HL, ⟨Below.refl _ _⟩⟩
                case round =>
                  clear HL h0 h1 h2 h3 h4
                  obtain ⟨t, ht, rfl, HS, HB2⟩ := hrel
                  have hB := HB2.out
                  have hB3 : Below w.heap.size w wr := (HW.out.alloc HW.out.size _).trans (hB.mono (by have := HW.out.size; (try simp at this); omega))
                  have hB4 : Below (w2).heap.size (w2) wr := ((Below.refl _ _).alloc (Nat.le_refl _) _).trans (hB.mono (by simp))
                  have HB3 := Aside0.mk hB3
                  by_cases ht2 : t < 2
                  · have hrow : Kd.C (Kd.slice 127 k127) wr (some ⟨w2.heap.size, 0, none⟩) 2 [x.f3, x.f4] :=
                      two_rows ((hB.cell (p := ⟨w2.heap.size, 0, none⟩) (by simp)).trans (by simp [go_sem])) ((hB.cell (p := ⟨w2.heap.size, 1, none⟩) (by simp)).trans (by simp [go_sem])) Hc3.out Hc4.out (Kd.C_below HW3.out hB4) (Kd.C_below HW4.out hB4)
                    obtain ⟨ad2, Ap, cp, e2, g0, lp, hCp⟩ := L7_at hrow t ht2
                    simp only [Option.some.injEq] at e2
                    subst e2
                    rw [add_plain] at g0
                    have hS := HS.out
                    rw [shapesParts_at _ (by simpa using ht2), Option.bind_assoc] at hS
                    generalize [x.f3, x.f4].getD t [] = p at g0 lp hCp hS
                    obtain ⟨e, hp, hrest⟩ := Option.bind_eq_some_iff.1 hS
                    rw [← Hgo.out] at hp
                    have HP := Aside0.mk hp
                    have hlp := hCp.2.1
                    have HCp := Aside0.mk hCp
                    have Hlp := Aside0.mk lp
                    have hbb : w2.heap.size + 1 ≤ wr.heap.size := by have := hB.size; simp at this; omega
                    by_cases he : e = 0
                    · subst he
                      simp only [if_true] at hrest
                      have HQ := Aside0.mk hrest
                      clear hS HS hrow hrest hCp lp hB hp hB3 hB4
                      go_wp2_with (go_at_call 81; refine (IH.out _ _ _ _ _ _ HCp.out Hlp.out HP.out).mono ?_; rintro e w3 ⟨rfl, hb3⟩)
                      go_roundw
                      case rel => exact ⟨t + 1, by omega, by go_num, HQ, ⟨HB2.out.trans (hb3.mono hbb)⟩⟩
                      case measure => simp [intOf]; omega
                    · simp only [if_neg he, Option.bind_some, Option.some.injEq] at hrest
                      subst hrest
                      have heb : (e != 0) = true := by simp [he]
                      clear hS HS hrow hCp lp hB hp he hB3 hB4
                      go_wp2_with (go_at_call 81; refine (IH.out _ _ _ _ _ _ HCp.out Hlp.out HP.out).mono ?_; rintro e w3 ⟨rfl, hb3⟩)
                      go_ret
                      exact ⟨rfl, HB3.out.trans (hb3.mono HB3.out.size)⟩
                  · have hS := HS.out
                    rw [List.drop_of_length_le (by simp; omega)] at hS
                    simp only [shapesParts, Option.bind_some, if_true] at hS
                    have HS' := Aside0.mk hS
                    clear hS hB hB3 hB4
                    go_wp2
                    go_roundw
                    case rel => exact ⟨j + 1, by omega, by go_num, HS', HB3⟩
                    case measure => simp [intOf]; omega
            · rw [if_neg hi, if_neg (by decide), Option.some.injEq] at hL
              rw [decide_eq_false hi] at HK
              subst hL
              clear hk hk2 how hkk hbl hi HL
              rcases hb2b with ⟨p2, p3⟩ | p2
              all_goals
                go_wp2_with fail
                refine (codemasonref_Inside.calls kk a0 _ 1 [x.f1] false _ H3I.out (Nat.le_refl _) HK.out).mono ?_
                rintro e w2 ⟨rfl, hd2⟩
                have Hb2 := Aside0.mk hd2.below
                clear hd2
                go_wp2_with fail
                go_ret
                exact ⟨rfl, HB.out.trans ((Hbl.out.trans (Hb2.out.mono (by simp; omega))).mono HB.out.size)⟩
          · have how : kindOwn a0 x = 6 := by unfold kindOwn; rw [if_pos (by omega)]
            rw [how, if_neg (by decide), Option.some.injEq] at hL
            subst hL
            have p2 : (x.f0 != 2) = true := by simp; omega
            have p3 : (x.f0 != 3) = true := by simp; omega
            clear hk hk2 how HL
            go_wp2
            go_ret
            exact ⟨rfl, HB.out.alloc HB.out.size _⟩
      · have hL := HL.out
        rw [List.drop_of_length_le (by omega)] at hL
        simp only [shapesLoop, Option.some.injEq] at hL
        subst hL
        go_wp2
        go_ret
        exact ⟨rfl, HB.out⟩
end Go.Proofs.Ytaicamjpcnhjcaa.PA
namespace Go.Proofs.Ytaicamjpcnhjcaa.PA
open Go.RowKit Go.Proofs.YtaicamjpcnhjcaaW.PrintWords Go.Proofs.YtaicamjpcnhjcaaW.PrintLast Go.Proofs.YtaicamjpcnhjcaaW.PrintMore
set_option linter.unusedVariables false
set_option linter.unusedSimpArgs false
def codemasonref_Right.f (k : Nat) (a0 : Int) (l1 : List (S127)) : Option (Bool) := (codemasonref_shapeKinds.f k a0 l1).bind fun t280 => (some (t280 == 0))
theorem codemasonref_Right.mono : ∀ a0 a1 k, LeO (codemasonref_Right.f k a0 a1) (codemasonref_Right.f (k + 1) a0 a1) := by
  intro a0 a1 k
  unfold codemasonref_Right.f
  repeat' first
      | (with_reducible exact codemasonref_shapeKinds.mono _ _ _)
      | (with_reducible exact LeO.refl _)
      | (with_reducible exact LeO.none _)
      | (with_reducible refine LeO.ite ?_ ?_)
      | (with_reducible refine LeO.bind ?_ (fun _ => ?_))
      | exact codemasonref_shapeKinds.mono _ _ _
      | exact LeO.none _
      | refine LeO.ite ?_ ?_
      | refine LeO.bind ?_ (fun _ => ?_)
set_option maxHeartbeats 8000000 in
set_option maxRecDepth 100000 in
theorem codemasonref_Right.calls (k : Nat) (a0 : Int) (A1 : Option Addr) (c1 : Nat) (l1 : List (S127)) (r : Bool) (w : World) (hr1 : Kd.C k127 w A1 l1.length l1) (hc1 : l1.length ≤ c1) (h : codemasonref_Right.f k a0 l1 = some r) :
    Calls Try.prog 31 #[.int .i64 a0, .slice A1 l1.length c1] w fun e w' => e = .returned (.bool r) ∧ Below w.heap.size w w' := by
  have HR1 := Aside0.mk hr1
  have HC1 := Aside0.mk hc1
  clear hr1 hc1
  have HB := Aside0.mk (Below.refl w.heap.size w)
  have H : ((codemasonref_shapeKinds.f k a0 l1).bind fun t280 => (some (t280 == 0))) = some r := h
  clear h
  replace H := Option.bind_eq_some_iff.mp H
  obtain ⟨t280, A30, H⟩ := H
  replace H : (some (t280 == 0)) = some r := H
  have A3 := Aside0.mk A30
  clear A30
  obtain rfl := Option.some.inj H
  go_enter Try.func31, Try.ntmps31
  go_wp2_with (first | ((with_reducible refine gate_callee (f := 81) rfl ?_); refine goesL_ (some 7) rfl rfl Try.func81 (by kernel_rfl) rfl #[.int .i64 a0, .slice A1 l1.length c1] rfl (by (try simp only [List.map_toArray, List.map_cons, List.map_nil]); first | done | rfl | (simp only [List.length_drop, List.length_take]; rfl)) ?_; (with_reducible refine (codemasonref_shapeKinds.calls k a0 _ _ l1 t280 _ ?side1 ?side2 A3.out).mono ?_); (case side1 => repeat (first | exact HR1.out | (with_reducible refine Kd.C_alloc ?_ _) | (with_reducible refine Kd.C_drewN ?_ _) | (with_reducible refine Kd.C_drew ?_))); (case side2 => exact HC1.out); rintro e w4 ⟨rfl, hb⟩; refine ⟨_, rfl, ?_⟩; have n0_ := Aside0.mk (below_step (by repeat (first | (with_reducible first | exact HB.out | apply below_alloc | apply pw_below_drewN | apply below_drew1) | exact HB.out)) hb); clear HB; have HB := n0_; clear n0_; (try clear hb); (try clear hb2); (try clear hk); (try clear hi)))
  go_ret
  exact ⟨by first | rfl | (simp [errW_none, errW_some] <;> rfl) | (simp [*, errW_none, errW_some] <;> rfl), by repeat (first | (with_reducible first | exact HB.out | apply below_alloc | apply pw_below_drewN | apply below_drew1) | exact HB.out)⟩
end Go.Proofs.Ytaicamjpcnhjcaa.PA
namespace Go.Proofs.Ytaicamjpcnhjcaa.PA
open Go.RowKit Go.Proofs.YtaicamjpcnhjcaaW.PrintWords Go.Proofs.YtaicamjpcnhjcaaW.PrintLast Go.Proofs.YtaicamjpcnhjcaaW.PrintMore
set_option linter.unusedVariables false
set_option linter.unusedSimpArgs false
mutual
def codemasonref_Whiles.l0 : Nat → Int → List (S127) → Int → Int → Option (Int)
  | 0, _, _, _, _ => none
  | k + 1, x3, x6, x7, x8 => if x8 < x7 then (if 0 ≤ x8 then (if x8 < (x6.length : Int) then (if ((rd_T127 x6 x8).f0) = 3 then ((codemasonref_Whiles.f k ((rd_T127 x6 x8).f3)).bind fun t283 => ((codemasonref_Whiles.f k ((rd_T127 x6 x8).f4)).bind fun t284 => (codemasonref_Whiles.l0 k (wrap64 ((wrap64 ((wrap64 (x3 + 1)) + t283)) + t284)) x6 x7 (wrap64 (x8 + 1))))) else ((codemasonref_Whiles.f k ((rd_T127 x6 x8).f3)).bind fun t285 => ((codemasonref_Whiles.f k ((rd_T127 x6 x8).f4)).bind fun t286 => (codemasonref_Whiles.l0 k (wrap64 ((wrap64 (x3 + t285)) + t286)) x6 x7 (wrap64 (x8 + 1)))))) else (none)) else (none)) else (some x3)
def codemasonref_Whiles.f : Nat → List (S127) → Option (Int)
  | 0, _ => none
  | k + 1, l0 => codemasonref_Whiles.l0 k 0 l0 (l0.length : Int) 0
end
theorem codemasonref_Whiles.mono_l : ∀ k, (∀ y0, LeO (codemasonref_Whiles.f k y0) (codemasonref_Whiles.f (k + 1) y0)) ∧ (∀ y0 y1 y2 y3, LeO (codemasonref_Whiles.l0 k y0 y1 y2 y3) (codemasonref_Whiles.l0 (k + 1) y0 y1 y2 y3))
  | 0 => ⟨fun _ r h => by simp [codemasonref_Whiles.f] at h, fun _ _ _ _ r h => by simp [codemasonref_Whiles.l0] at h⟩
  | k + 1 => by
    obtain ⟨ih0, ih1⟩ := codemasonref_Whiles.mono_l k
    refine ⟨?_, ?_⟩
    · intro y0
      unfold codemasonref_Whiles.f
      repeat' first
      | (with_reducible exact ih0 _)
      | (with_reducible exact ih1 _ _ _ _)
      | (with_reducible exact LeO.refl _)
      | (with_reducible exact LeO.none _)
      | (with_reducible refine LeO.ite ?_ ?_)
      | (with_reducible refine LeO.bind ?_ (fun _ => ?_))
      | exact ih0 _
      | exact ih1 _ _ _ _
      | exact LeO.none _
      | refine LeO.ite ?_ ?_
      | refine LeO.bind ?_ (fun _ => ?_)
    · intro y0 y1 y2 y3
      unfold codemasonref_Whiles.l0
      repeat' first
      | (with_reducible exact ih0 _)
      | (with_reducible exact ih1 _ _ _ _)
      | (with_reducible exact LeO.refl _)
      | (with_reducible exact LeO.none _)
      | (with_reducible refine LeO.ite ?_ ?_)
      | (with_reducible refine LeO.bind ?_ (fun _ => ?_))
      | exact ih0 _
      | exact ih1 _ _ _ _
      | exact LeO.none _
      | refine LeO.ite ?_ ?_
      | refine LeO.bind ?_ (fun _ => ?_)
theorem codemasonref_Whiles.mono : ∀ a0 k, LeO (codemasonref_Whiles.f k a0) (codemasonref_Whiles.f (k + 1) a0) := by
  intro a0 k
  obtain ⟨ih0, ih1⟩ := codemasonref_Whiles.mono_l k
  exact ih0 a0
def codemasonref_Whiles.T7 : Bool × List (List Nat × List Nat) := (true, [([], []), ([], []), ([1], [1]), ([2], [2]), ([0, 3], [0, 3]), ([], []), ([5], [5]), ([6, 3], [6]), ([4, 7], [4, 7]), ([8, 7, 0, 1, 2, 3, 4, 5, 6, 7, 8], [0, 8])])
def codemasonref_Whiles.B7 : List Nat := [0, 0, 2, 6, 15, 0, 32, 110, 255, 511]
theorem codemasonref_Whiles.tab7 : rtab .any (opsOf Try.f32 7) = codemasonref_Whiles.T7 := by kernel_rfl
theorem codemasonref_Whiles.bits7 : waitsOk codemasonref_Whiles.T7.2 codemasonref_Whiles.B7 = true := by kernel_rfl
set_option maxHeartbeats 8000000 in
set_option maxRecDepth 100000 in
theorem codemasonref_Whiles.calls (k : Nat) : ∀ (A0 : Option Addr) (c0 : Nat) (l0 : List (S127)) (r : Int) (w : World) (hr0 : Kd.C k127 w A0 l0.length l0) (hc0 : l0.length ≤ c0) (h : codemasonref_Whiles.f k l0 = some r),
    Calls Try.prog 32 #[.slice A0 l0.length c0] w fun e w' => e = .returned (.int .i64 r) ∧ Below w.heap.size w w' := by
  induction k using Nat.strongRecOn with
  | _ k ih =>
  intro A0 c0 l0 r w hr0 hc0 h
  cases k with
  | zero => exact absurd h (by simp [codemasonref_Whiles.f])
  | succ k =>
  simp only [codemasonref_Whiles.f] at h
  have hu127 := Try.underlying127
  have HR0 := Aside0.mk hr0
  have HC0 := Aside0.mk hc0
  clear hr0 hc0
  have HB := Aside0.mk (Below.refl w.heap.size w)
  have H : (codemasonref_Whiles.l0 k 0 l0 (l0.length : Int) 0) = some r := h
  clear h
  have H' := Aside0.mk H
  clear H
  go_enter Try.func32, Try.ntmps32
  go_wp2
  go_loopg [3, 8] k (fun kq v3 v8 w' => ∃ (x3_1 : Int) (x8_1 : Int), v3 = .int .i64 x3_1 ∧ v8 = .int .i64 x8_1 ∧ Aside0 (codemasonref_Whiles.l0 kq x3_1 l0 (l0.length : Int) x8_1 = some r) ∧ Aside0 (kq ≤ k) ∧ Aside0 (Below w.heap.size w w'))
  case atStart => exact ⟨(0), (0), (by first | rfl | (simp; done) | (simp [*]; done)), (by first | rfl | (simp; done) | (simp [*]; done)), H', ⟨Nat.le_refl _⟩, ⟨by repeat (first | (with_reducible first | exact HB.out | apply below_alloc | apply pw_below_drewN | apply below_drew1) | exact HB.out)⟩⟩
  case round =>
    clear H'
    obtain ⟨x3_1, x8_1, rfl, rfl, HA, HK1, HB⟩ := hrel
    cases gk with
    | zero => exact absurd HA.out (by simp [codemasonref_Whiles.l0])
    | succ k1 =>
      have H := HA.out
      clear HA
      simp only [codemasonref_Whiles.l0] at H
      by_cases c2 : x8_1 < (l0.length : Int)
      · rw [if_pos c2] at H
        have c2b0 : decide (x8_1 < (l0.length : Int)) = true := decide_eq_true c2
        clear c2
        by_cases c3 : 0 ≤ x8_1
        · rw [if_pos c3] at H
          have c3b0 : decide (0 ≤ x8_1) = true := decide_eq_true c3
          clear c3
          by_cases c4 : x8_1 < (l0.length : Int)
          · rw [if_pos c4] at H
            have c4b0 : decide (x8_1 < (l0.length : Int)) = true := decide_eq_true c4
            clear c4
            by_cases c5 : ((rd_T127 l0 x8_1).f0) = 3
            · rw [if_pos c5] at H
              have c5b0 : (((rd_T127 l0 x8_1).f0) == 3) = true := beq_iff_eq.mpr c5
              have c5b1 : (((rd_T127 l0 x8_1).f0) != 3) = false := bne_eq_false_iff_eq.mpr c5
              clear c5
              replace H := Option.bind_eq_some_iff.mp H
              obtain ⟨t283, A60, H⟩ := H
              replace H : ((codemasonref_Whiles.f k1 ((rd_T127 l0 x8_1).f4)).bind fun t284 => (codemasonref_Whiles.l0 k1 (wrap64 ((wrap64 ((wrap64 (x3_1 + 1)) + t283)) + t284)) l0 (l0.length : Int) (wrap64 (x8_1 + 1)))) = some r := H
              have A6 := Aside0.mk A60
              clear A60
              replace H := Option.bind_eq_some_iff.mp H
              obtain ⟨t284, A70, H⟩ := H
              replace H : (codemasonref_Whiles.l0 k1 (wrap64 ((wrap64 ((wrap64 (x3_1 + 1)) + t283)) + t284)) l0 (l0.length : Int) (wrap64 (x8_1 + 1))) = some r := H
              have A7 := Aside0.mk A70
              clear A70
              have H' := Aside0.mk H
              clear H
              have p281 : 0 ≤ (x8_1 : Int) := of_decide_eq_true (by first | (with_reducible assumption) | assumption)
              have q281 : x8_1 < (l0.length : Int) := of_decide_eq_true (by first | (with_reducible assumption) | assumption)
              obtain ⟨ad281, A281_2, c281_2, A281_3, c281_3, A281_4, c281_4, e281, hx281_0, hx281_1, hx281_2, hx281_3, hx281_4, hl281_2, hi281_2, hl281_3, hi281_3, hl281_4, hi281_4⟩ := at_T127 HR0.out x8_1 p281 q281
              cases e281
              replace hx281_0 := (HB.out.cell (World.block_lt_of_cell? w _ hx281_0)).trans hx281_0
              replace hx281_1 := (HB.out.cell (World.block_lt_of_cell? w _ hx281_1)).trans hx281_1
              replace hx281_2 := (HB.out.cell (World.block_lt_of_cell? w _ hx281_2)).trans hx281_2
              replace hx281_3 := (HB.out.cell (World.block_lt_of_cell? w _ hx281_3)).trans hx281_3
              replace hx281_4 := (HB.out.cell (World.block_lt_of_cell? w _ hx281_4)).trans hx281_4
              have HR281_2 := Aside0.mk hi281_2
              have HC281_2 := Aside0.mk hl281_2
              clear hi281_2 hl281_2
              have HR281_3 := Aside0.mk hi281_3
              have HC281_3 := Aside0.mk hl281_3
              clear hi281_3 hl281_3
              have HR281_4 := Aside0.mk hi281_4
              have HC281_4 := Aside0.mk hl281_4
              clear hi281_4 hl281_4
              replace p281 := eq_true p281
              replace q281 := eq_true q281
              try go_wp2_with (first | ((with_reducible refine gate_dst (N := 5) rfl ?_); refine box_event ?hg (N := 5) ?hd (cs := #[.int .i64 0, .int .i64 0, .slice none 0 0, .slice none 0 0, .slice none 0 0]) (t := 127) ?hr ?_; (case hd => rfl); (case hg => rfl); (case hr => first | (go_simp; done) | (go_simp; rfl)); intro gb282 hg w8 hbox hb; have n0_ := Aside0.mk (below_step (by repeat (first | (with_reducible first | exact HB.out | apply below_alloc | apply pw_below_drewN | apply below_drew1) | exact HB.out)) hb); have n1_ := Aside0.mk (hbox); have n2_ := Aside0.mk ((by rw [hg]; exact (below_size (by repeat (first | (with_reducible first | exact HB.out | apply below_alloc | apply pw_below_drewN | apply below_drew1) | exact HB.out))) : w.heap.size ≤ gb282)); have n3_ := Aside0.mk ((by rw [hg]; exact (below_size (by repeat (first | (with_reducible first | exact HB.out | apply below_alloc | apply pw_below_drewN | apply below_drew1) | exact HB.out))) : w.heap.size ≤ gb282)); clear HB; have HB := n0_; have BK282 := n1_; have GW282 := n2_; have GE282 := n3_; clear n0_ n1_ n2_ n3_; clear hb hbox hg; have hcz9_0 : w8.cell? ⟨gb282, 0, none⟩ = some (.int .i64 0) := (blk_cell BK282.out 0).trans rfl; have hcz9_1 : w8.cell? ⟨gb282, 1, none⟩ = some (.int .i64 0) := (blk_cell BK282.out 1).trans rfl; have hcz9_2 : w8.cell? ⟨gb282, 2, none⟩ = some (.slice none 0 0) := (blk_cell BK282.out 2).trans rfl; have hcz9_3 : w8.cell? ⟨gb282, 3, none⟩ = some (.slice none 0 0) := (blk_cell BK282.out 3).trans rfl; have hcz9_4 : w8.cell? ⟨gb282, 4, none⟩ = some (.slice none 0 0) := (blk_cell BK282.out 4).trans rfl; have hfz9_0 := blk_frozen BK282.out 0; have hfz9_1 := blk_frozen BK282.out 1; have hfz9_2 := blk_frozen BK282.out 2; have hfz9_3 := blk_frozen BK282.out 3; have hfz9_4 := blk_frozen BK282.out 4))
              have n0_ : Aside0 ((((((w8.setCell ⟨gb282, 0, none⟩ (.int .i64 ((rd_T127 l0 x8_1).f0))).setCell ⟨gb282, 1, none⟩ (.int .i64 ((rd_T127 l0 x8_1).f1))).setCell ⟨gb282, 2, none⟩ (.slice A281_2 ((rd_T127 l0 x8_1).f2).length c281_2)).setCell ⟨gb282, 3, none⟩ (.slice A281_3 ((rd_T127 l0 x8_1).f3).length c281_3)).setCell ⟨gb282, 4, none⟩ (.slice A281_4 ((rd_T127 l0 x8_1).f4).length c281_4)).heap[gb282]? = some (.cells #[.int .i64 ((rd_T127 l0 x8_1).f0), .int .i64 ((rd_T127 l0 x8_1).f1), .slice A281_2 ((rd_T127 l0 x8_1).f2).length c281_2, .slice A281_3 ((rd_T127 l0 x8_1).f3).length c281_3, .slice A281_4 ((rd_T127 l0 x8_1).f4).length c281_4] 127 (0, 0))) := ⟨by (with_reducible repeat (first | refine blk_drewN ?_ _ | refine blk_drew ?_ | refine blk_alloc ?_ _)); refine blk_put (cs := #[.int .i64 ((rd_T127 l0 x8_1).f0), .int .i64 ((rd_T127 l0 x8_1).f1), .slice A281_2 ((rd_T127 l0 x8_1).f2).length c281_2, .slice A281_3 ((rd_T127 l0 x8_1).f3).length c281_3, .slice none 0 0]) ?_ 4 _ rfl; (with_reducible repeat (first | refine blk_drewN ?_ _ | refine blk_drew ?_ | refine blk_alloc ?_ _)); refine blk_put (cs := #[.int .i64 ((rd_T127 l0 x8_1).f0), .int .i64 ((rd_T127 l0 x8_1).f1), .slice A281_2 ((rd_T127 l0 x8_1).f2).length c281_2, .slice none 0 0, .slice none 0 0]) ?_ 3 _ rfl; (with_reducible repeat (first | refine blk_drewN ?_ _ | refine blk_drew ?_ | refine blk_alloc ?_ _)); refine blk_put (cs := #[.int .i64 ((rd_T127 l0 x8_1).f0), .int .i64 ((rd_T127 l0 x8_1).f1), .slice none 0 0, .slice none 0 0, .slice none 0 0]) ?_ 2 _ rfl; (with_reducible repeat (first | refine blk_drewN ?_ _ | refine blk_drew ?_ | refine blk_alloc ?_ _)); refine blk_put (cs := #[.int .i64 ((rd_T127 l0 x8_1).f0), .int .i64 0, .slice none 0 0, .slice none 0 0, .slice none 0 0]) ?_ 1 _ rfl; (with_reducible repeat (first | refine blk_drewN ?_ _ | refine blk_drew ?_ | refine blk_alloc ?_ _)); refine blk_put (cs := #[.int .i64 0, .int .i64 0, .slice none 0 0, .slice none 0 0, .slice none 0 0]) ?_ 0 _ rfl; (with_reducible repeat (first | refine blk_drewN ?_ _ | refine blk_drew ?_ | refine blk_alloc ?_ _)); exact BK282.out⟩
              have n1_ : Aside0 (Below w.heap.size w (((((w8.setCell ⟨gb282, 0, none⟩ (.int .i64 ((rd_T127 l0 x8_1).f0))).setCell ⟨gb282, 1, none⟩ (.int .i64 ((rd_T127 l0 x8_1).f1))).setCell ⟨gb282, 2, none⟩ (.slice A281_2 ((rd_T127 l0 x8_1).f2).length c281_2)).setCell ⟨gb282, 3, none⟩ (.slice A281_3 ((rd_T127 l0 x8_1).f3).length c281_3)).setCell ⟨gb282, 4, none⟩ (.slice A281_4 ((rd_T127 l0 x8_1).f4).length c281_4))) := ⟨by repeat (first | (with_reducible first | exact HB.out | apply below_alloc | apply pw_below_drewN | apply below_drew1 | refine below_set ?_ GE282.out) | exact HB.out)⟩
              (try clear BK282)
              (try clear HB)
              generalize (((((w8.setCell ⟨gb282, 0, none⟩ (.int .i64 ((rd_T127 l0 x8_1).f0))).setCell ⟨gb282, 1, none⟩ (.int .i64 ((rd_T127 l0 x8_1).f1))).setCell ⟨gb282, 2, none⟩ (.slice A281_2 ((rd_T127 l0 x8_1).f2).length c281_2)).setCell ⟨gb282, 3, none⟩ (.slice A281_3 ((rd_T127 l0 x8_1).f3).length c281_3)).setCell ⟨gb282, 4, none⟩ (.slice A281_4 ((rd_T127 l0 x8_1).f4).length c281_4)) = w10 at n0_ n1_ ⊢
              have BK282 := n0_
              have HB := n1_
              clear n0_ n1_
              have n0_ := Aside0.mk (blk_drew BK282.out)
              have n1_ := Aside0.mk (below_drew1 HB.out)
              clear BK282
              clear HB
              have BK282 := n0_
              have HB := n1_
              clear n0_ n1_
              refine start_ (n := 10) (S := fun w' => w'.cell? ⟨gb282, 0, none⟩ = some (.int .i64 ((rd_T127 l0 x8_1).f0)) ∧ w'.cell? ⟨gb282, 1, none⟩ = some (.int .i64 ((rd_T127 l0 x8_1).f1)) ∧ w'.cell? ⟨gb282, 2, none⟩ = some (.slice A281_2 ((rd_T127 l0 x8_1).f2).length c281_2) ∧ w'.cell? ⟨gb282, 3, none⟩ = some (.slice A281_3 ((rd_T127 l0 x8_1).f3).length c281_3) ∧ w'.cell? ⟨gb282, 4, none⟩ = some (.slice A281_4 ((rd_T127 l0 x8_1).f4).length c281_4)) (ds := []) #[false, false, false, false, false, false, false, false, false, false] (by kernel_rfl) rfl rfl ⟨(blk_cell BK282.out 0).trans rfl, (blk_cell BK282.out 1).trans rfl, (blk_cell BK282.out 2).trans rfl, (blk_cell BK282.out 3).trans rfl, (blk_cell BK282.out 4).trans rfl⟩ (fun hHeld => ?_); refine with_tabW codemasonref_Whiles.tab7 codemasonref_Whiles.bits7 (fun HT_ HW_ => ?_)
              generalize w10.drew = w11 at BK282 HB hHeld ⊢
              refine pure_ (i := 0) (N := some 17) (v := ?_) (a' := ?_) #[true, false, false, false, false, false, false, false, false, false] rfl rfl (any_of HT_.out (by kernel_rfl)) (fun _ _ _ h => h) (Or.inl ⟨by rfl, ?_⟩) ?_ ?_
              rotate_left
              · intro w'
                go_simp
                with_reducible rfl
              rotate_left
              · simp only [Act.put, List.setIfInBounds_toArray, List.set_cons_zero, List.set_cons_succ, i64_w, i32_w]
                rfl
              refine pure_ (i := 1) (N := some 18) (v := ?_) (a' := ?_) #[true, true, false, false, false, false, false, false, false, false] rfl rfl (any_of HT_.out (by kernel_rfl)) (fun _ _ _ h => h) (Or.inl ⟨by rfl, ?_⟩) ?_ ?_
              rotate_left
              · intro w'
                go_simp
                with_reducible rfl
              rotate_left
              · simp only [Act.put, List.setIfInBounds_toArray, List.set_cons_zero, List.set_cons_succ, i64_w, i32_w]
                rfl
              refine pure_ (i := 5) (N := some 22) (v := ?_) (a' := ?_) #[true, true, false, false, false, true, false, false, false, false] rfl rfl (any_of HT_.out (by kernel_rfl)) (fun _ _ _ h => h) (Or.inl ⟨by rfl, ?_⟩) ?_ ?_
              rotate_left
              · intro w'
                go_simp
                with_reducible rfl
              rotate_left
              · simp only [Act.put, List.setIfInBounds_toArray, List.set_cons_zero, List.set_cons_succ, i64_w, i32_w]
                rfl
              refine take_ (i := 2) (N := some 19) (v := ?_) (a' := ?_) #[true, true, true, false, false, true, false, false, false, false] rfl rfl (take_ofW HT_.out HW_.out (by kernel_rfl)) (fun _ _ _ h => h) (Or.inl ⟨by rfl, ?_⟩) hHeld ?_ ?_
              rotate_left
              · rintro w' ⟨s0, s1, s2, s3, s4⟩
                go_simp
                with_reducible rfl
              rotate_left
              · simp only [Act.put, List.setIfInBounds_toArray, List.set_cons_zero, List.set_cons_succ, i64_w, i32_w]
                rfl
              refine take_ (i := 6) (N := some 23) (v := ?_) (a' := ?_) #[true, true, true, false, false, true, true, false, false, false] rfl rfl (take_ofW HT_.out HW_.out (by kernel_rfl)) (fun _ _ _ h => h) (Or.inl ⟨by rfl, ?_⟩) hHeld ?_ ?_
              rotate_left
              · rintro w' ⟨s0, s1, s2, s3, s4⟩
                go_simp
                with_reducible rfl
              rotate_left
              · simp only [Act.put, List.setIfInBounds_toArray, List.set_cons_zero, List.set_cons_succ, i64_w, i32_w]
                rfl
              refine one_ (i := 3) (N := some 20) #[true, true, true, true, false, true, true, false, false, false] rfl rfl (one_of HT_.out (by kernel_rfl)) (by decide) (fun K hK => ?_)
              refine goes_ Try.func32 (by kernel_rfl) rfl #[.slice A281_3 ((rd_T127 l0 x8_1).f3).length c281_3] (by rfl) rfl rfl (by (try simp only [List.map_toArray, List.map_cons, List.map_nil]); first | done | rfl | (simp only [List.length_drop, List.length_take]; rfl)) ?_
              with_reducible refine (ih k1 (by have := HK1.out; omega) _ _ ((rd_T127 l0 x8_1).f3) t283 _ ?side1 ?side2 A6.out).mono ?_
              (case side1 => repeat (first | exact (Kd.C_below HR281_3.out HB.out) | (with_reducible refine Kd.C_alloc ?_ _) | (with_reducible refine Kd.C_drewN ?_ _) | (with_reducible refine Kd.C_drew ?_)))
              (case side2 => exact HC281_3.out)
              rintro e w12 ⟨rfl, hb⟩
              refine ⟨_, rfl, ?_⟩
              have n0_ := Aside0.mk (blk_below (g := gb282) (o := .cells #[.int .i64 ((rd_T127 l0 x8_1).f0), .int .i64 ((rd_T127 l0 x8_1).f1), .slice A281_2 ((rd_T127 l0 x8_1).f2).length c281_2, .slice A281_3 ((rd_T127 l0 x8_1).f3).length c281_3, .slice A281_4 ((rd_T127 l0 x8_1).f4).length c281_4] 127 (0, 0)) (by (with_reducible repeat (first | refine blk_drewN ?_ _ | refine blk_drew ?_ | refine blk_alloc ?_ _)); exact BK282.out) hb)
              have n1_ := Aside0.mk (below_step (by repeat (first | (with_reducible first | exact HB.out | apply below_alloc | apply pw_below_drewN | apply below_drew1 | refine below_set ?_ GE282.out) | exact HB.out)) hb)
              clear BK282
              clear HB
              have BK282 := n0_
              have HB := n1_
              clear n0_ n1_
              (try clear hb)
              (try clear hb2)
              (try clear hk)
              (try clear hi)
              refine hK.out _ _ ⟨(blk_cell BK282.out 0).trans rfl, (blk_cell BK282.out 1).trans rfl, (blk_cell BK282.out 2).trans rfl, (blk_cell BK282.out 3).trans rfl, (blk_cell BK282.out 4).trans rfl⟩ (fun hHeld => ?_)
              clear hK K
              refine norm_ (a' := ?_) ?_ ?_
              rotate_left
              · show Act.put _ (some 20) _ = _
                simp only [Act.put, List.setIfInBounds_toArray, List.set_cons_zero, List.set_cons_succ, i64_w, i32_w]
                rfl
              refine pure_ (i := 4) (N := some 21) (v := ?_) (a' := ?_) #[true, true, true, true, true, true, true, false, false, false] rfl rfl (any_of HT_.out (by kernel_rfl)) (fun _ _ _ h => h) (Or.inl ⟨by rfl, ?_⟩) ?_ ?_
              rotate_left
              · intro w'
                go_simp
                with_reducible rfl
              rotate_left
              · simp only [Act.put, List.setIfInBounds_toArray, List.set_cons_zero, List.set_cons_succ, i64_w, i32_w]
                rfl
              refine one_ (i := 7) (N := some 24) #[true, true, true, true, true, true, true, true, false, false] rfl rfl (one_of HT_.out (by kernel_rfl)) (by decide) (fun K hK => ?_)
              refine goes_ Try.func32 (by kernel_rfl) rfl #[.slice A281_4 ((rd_T127 l0 x8_1).f4).length c281_4] (by rfl) rfl rfl (by (try simp only [List.map_toArray, List.map_cons, List.map_nil]); first | done | rfl | (simp only [List.length_drop, List.length_take]; rfl)) ?_
              with_reducible refine (ih k1 (by have := HK1.out; omega) _ _ ((rd_T127 l0 x8_1).f4) t284 _ ?side1 ?side2 A7.out).mono ?_
              (case side1 => repeat (first | exact (Kd.C_below HR281_4.out HB.out) | (with_reducible refine Kd.C_alloc ?_ _) | (with_reducible refine Kd.C_drewN ?_ _) | (with_reducible refine Kd.C_drew ?_)))
              (case side2 => exact HC281_4.out)
              rintro e w13 ⟨rfl, hb⟩
              refine ⟨_, rfl, ?_⟩
              have n0_ := Aside0.mk (blk_below (g := gb282) (o := .cells #[.int .i64 ((rd_T127 l0 x8_1).f0), .int .i64 ((rd_T127 l0 x8_1).f1), .slice A281_2 ((rd_T127 l0 x8_1).f2).length c281_2, .slice A281_3 ((rd_T127 l0 x8_1).f3).length c281_3, .slice A281_4 ((rd_T127 l0 x8_1).f4).length c281_4] 127 (0, 0)) (by (with_reducible repeat (first | refine blk_drewN ?_ _ | refine blk_drew ?_ | refine blk_alloc ?_ _)); exact BK282.out) hb)
              have n1_ := Aside0.mk (below_step (by repeat (first | (with_reducible first | exact HB.out | apply below_alloc | apply pw_below_drewN | apply below_drew1 | refine below_set ?_ GE282.out) | exact HB.out)) hb)
              clear BK282
              clear HB
              have BK282 := n0_
              have HB := n1_
              clear n0_ n1_
              (try clear hb)
              (try clear hb2)
              (try clear hk)
              (try clear hi)
              refine hK.out _ _ ⟨(blk_cell BK282.out 0).trans rfl, (blk_cell BK282.out 1).trans rfl, (blk_cell BK282.out 2).trans rfl, (blk_cell BK282.out 3).trans rfl, (blk_cell BK282.out 4).trans rfl⟩ (fun hHeld => ?_)
              clear hK K
              refine norm_ (a' := ?_) ?_ ?_
              rotate_left
              · show Act.put _ (some 24) _ = _
                simp only [Act.put, List.setIfInBounds_toArray, List.set_cons_zero, List.set_cons_succ, i64_w, i32_w]
                rfl
              refine pure_ (i := 8) (N := some 25) (v := ?_) (a' := ?_) #[true, true, true, true, true, true, true, true, true, false] rfl rfl (any_of HT_.out (by kernel_rfl)) (fun _ _ _ h => h) (Or.inl ⟨by rfl, ?_⟩) ?_ ?_
              rotate_left
              · intro w'
                go_simp
                with_reducible rfl
              rotate_left
              · simp only [Act.put, List.setIfInBounds_toArray, List.set_cons_zero, List.set_cons_succ, i64_w, i32_w]
                rfl
              refine pure_ (i := 9) (N := some 3) (v := ?_) (a' := ?_) #[true, true, true, true, true, true, true, true, true, true] rfl rfl (any_of HT_.out (by kernel_rfl)) (fun _ _ _ h => h) (Or.inl ⟨by rfl, ?_⟩) ?_ ?_
              rotate_left
              · intro w'
                go_simp
                with_reducible rfl
              rotate_left
              · simp only [Act.put, List.setIfInBounds_toArray, List.set_cons_zero, List.set_cons_succ, i64_w, i32_w]
                rfl
              refine done_ (done_of HT_.out (by kernel_rfl)) ?_
              try go_wp2
              go_roundg k1
              case measure => have := HK1.out; omega
              case rel => exact ⟨(wrap64 ((wrap64 ((wrap64 (x3_1 + 1)) + t283)) + t284)), (wrap64 (x8_1 + 1)), (by first | rfl | (simp; done) | (simp [*]; done)), (by first | rfl | (simp; done) | (simp [*]; done)), H', ⟨by have := HK1.out; omega⟩, ⟨by repeat (first | (with_reducible first | exact HB.out | apply below_alloc | apply pw_below_drewN | apply below_drew1 | refine below_set ?_ GE282.out) | exact HB.out)⟩⟩
            · rw [if_neg c5] at H
              have c5b0 : (((rd_T127 l0 x8_1).f0) == 3) = false := beq_eq_false_iff_ne.mpr c5
              have c5b1 : (((rd_T127 l0 x8_1).f0) != 3) = true := bne_iff_ne.mpr c5
              replace H := Option.bind_eq_some_iff.mp H
              obtain ⟨t285, A140, H⟩ := H
              replace H : ((codemasonref_Whiles.f k1 ((rd_T127 l0 x8_1).f4)).bind fun t286 => (codemasonref_Whiles.l0 k1 (wrap64 ((wrap64 (x3_1 + t285)) + t286)) l0 (l0.length : Int) (wrap64 (x8_1 + 1)))) = some r := H
              have A14 := Aside0.mk A140
              clear A140
              replace H := Option.bind_eq_some_iff.mp H
              obtain ⟨t286, A150, H⟩ := H
              replace H : (codemasonref_Whiles.l0 k1 (wrap64 ((wrap64 (x3_1 + t285)) + t286)) l0 (l0.length : Int) (wrap64 (x8_1 + 1))) = some r := H
              have A15 := Aside0.mk A150
              clear A150
              have H' := Aside0.mk H
              clear H
              have p281 : 0 ≤ (x8_1 : Int) := of_decide_eq_true (by first | (with_reducible assumption) | assumption)
              have q281 : x8_1 < (l0.length : Int) := of_decide_eq_true (by first | (with_reducible assumption) | assumption)
              obtain ⟨ad281, A281_2, c281_2, A281_3, c281_3, A281_4, c281_4, e281, hx281_0, hx281_1, hx281_2, hx281_3, hx281_4, hl281_2, hi281_2, hl281_3, hi281_3, hl281_4, hi281_4⟩ := at_T127 HR0.out x8_1 p281 q281
              cases e281
              replace hx281_0 := (HB.out.cell (World.block_lt_of_cell? w _ hx281_0)).trans hx281_0
              replace hx281_1 := (HB.out.cell (World.block_lt_of_cell? w _ hx281_1)).trans hx281_1
              replace hx281_2 := (HB.out.cell (World.block_lt_of_cell? w _ hx281_2)).trans hx281_2
              replace hx281_3 := (HB.out.cell (World.block_lt_of_cell? w _ hx281_3)).trans hx281_3
              replace hx281_4 := (HB.out.cell (World.block_lt_of_cell? w _ hx281_4)).trans hx281_4
              have HR281_2 := Aside0.mk hi281_2
              have HC281_2 := Aside0.mk hl281_2
              clear hi281_2 hl281_2
              have HR281_3 := Aside0.mk hi281_3
              have HC281_3 := Aside0.mk hl281_3
              clear hi281_3 hl281_3
              have HR281_4 := Aside0.mk hi281_4
              have HC281_4 := Aside0.mk hl281_4
              clear hi281_4 hl281_4
              replace p281 := eq_true p281
              replace q281 := eq_true q281
              try go_wp2_with (first | ((with_reducible refine gate_dst (N := 5) rfl ?_); refine box_event ?hg (N := 5) ?hd (cs := #[.int .i64 0, .int .i64 0, .slice none 0 0, .slice none 0 0, .slice none 0 0]) (t := 127) ?hr ?_; (case hd => rfl); (case hg => rfl); (case hr => first | (go_simp; done) | (go_simp; rfl)); intro gb282 hg w16 hbox hb; have n0_ := Aside0.mk (below_step (by repeat (first | (with_reducible first | exact HB.out | apply below_alloc | apply pw_below_drewN | apply below_drew1) | exact HB.out)) hb); have n1_ := Aside0.mk (hbox); have n2_ := Aside0.mk ((by rw [hg]; exact (below_size (by repeat (first | (with_reducible first | exact HB.out | apply below_alloc | apply pw_below_drewN | apply below_drew1) | exact HB.out))) : w.heap.size ≤ gb282)); have n3_ := Aside0.mk ((by rw [hg]; exact (below_size (by repeat (first | (with_reducible first | exact HB.out | apply below_alloc | apply pw_below_drewN | apply below_drew1) | exact HB.out))) : w.heap.size ≤ gb282)); clear HB; have HB := n0_; have BK282 := n1_; have GW282 := n2_; have GE282 := n3_; clear n0_ n1_ n2_ n3_; clear hb hbox hg; have hcz17_0 : w16.cell? ⟨gb282, 0, none⟩ = some (.int .i64 0) := (blk_cell BK282.out 0).trans rfl; have hcz17_1 : w16.cell? ⟨gb282, 1, none⟩ = some (.int .i64 0) := (blk_cell BK282.out 1).trans rfl; have hcz17_2 : w16.cell? ⟨gb282, 2, none⟩ = some (.slice none 0 0) := (blk_cell BK282.out 2).trans rfl; have hcz17_3 : w16.cell? ⟨gb282, 3, none⟩ = some (.slice none 0 0) := (blk_cell BK282.out 3).trans rfl; have hcz17_4 : w16.cell? ⟨gb282, 4, none⟩ = some (.slice none 0 0) := (blk_cell BK282.out 4).trans rfl; have hfz17_0 := blk_frozen BK282.out 0; have hfz17_1 := blk_frozen BK282.out 1; have hfz17_2 := blk_frozen BK282.out 2; have hfz17_3 := blk_frozen BK282.out 3; have hfz17_4 := blk_frozen BK282.out 4))
              have n0_ : Aside0 ((((((w16.setCell ⟨gb282, 0, none⟩ (.int .i64 ((rd_T127 l0 x8_1).f0))).setCell ⟨gb282, 1, none⟩ (.int .i64 ((rd_T127 l0 x8_1).f1))).setCell ⟨gb282, 2, none⟩ (.slice A281_2 ((rd_T127 l0 x8_1).f2).length c281_2)).setCell ⟨gb282, 3, none⟩ (.slice A281_3 ((rd_T127 l0 x8_1).f3).length c281_3)).setCell ⟨gb282, 4, none⟩ (.slice A281_4 ((rd_T127 l0 x8_1).f4).length c281_4)).heap[gb282]? = some (.cells #[.int .i64 ((rd_T127 l0 x8_1).f0), .int .i64 ((rd_T127 l0 x8_1).f1), .slice A281_2 ((rd_T127 l0 x8_1).f2).length c281_2, .slice A281_3 ((rd_T127 l0 x8_1).f3).length c281_3, .slice A281_4 ((rd_T127 l0 x8_1).f4).length c281_4] 127 (0, 0))) := ⟨by (with_reducible repeat (first | refine blk_drewN ?_ _ | refine blk_drew ?_ | refine blk_alloc ?_ _)); refine blk_put (cs := #[.int .i64 ((rd_T127 l0 x8_1).f0), .int .i64 ((rd_T127 l0 x8_1).f1), .slice A281_2 ((rd_T127 l0 x8_1).f2).length c281_2, .slice A281_3 ((rd_T127 l0 x8_1).f3).length c281_3, .slice none 0 0]) ?_ 4 _ rfl; (with_reducible repeat (first | refine blk_drewN ?_ _ | refine blk_drew ?_ | refine blk_alloc ?_ _)); refine blk_put (cs := #[.int .i64 ((rd_T127 l0 x8_1).f0), .int .i64 ((rd_T127 l0 x8_1).f1), .slice A281_2 ((rd_T127 l0 x8_1).f2).length c281_2, .slice none 0 0, .slice none 0 0]) ?_ 3 _ rfl; (with_reducible repeat (first | refine blk_drewN ?_ _ | refine blk_drew ?_ | refine blk_alloc ?_ _)); refine blk_put (cs := #[.int .i64 ((rd_T127 l0 x8_1).f0), .int .i64 ((rd_T127 l0 x8_1).f1), .slice none 0 0, .slice none 0 0, .slice none 0 0]) ?_ 2 _ rfl; (with_reducible repeat (first | refine blk_drewN ?_ _ | refine blk_drew ?_ | refine blk_alloc ?_ _)); refine blk_put (cs := #[.int .i64 ((rd_T127 l0 x8_1).f0), .int .i64 0, .slice none 0 0, .slice none 0 0, .slice none 0 0]) ?_ 1 _ rfl; (with_reducible repeat (first | refine blk_drewN ?_ _ | refine blk_drew ?_ | refine blk_alloc ?_ _)); refine blk_put (cs := #[.int .i64 0, .int .i64 0, .slice none 0 0, .slice none 0 0, .slice none 0 0]) ?_ 0 _ rfl; (with_reducible repeat (first | refine blk_drewN ?_ _ | refine blk_drew ?_ | refine blk_alloc ?_ _)); exact BK282.out⟩
              have n1_ : Aside0 (Below w.heap.size w (((((w16.setCell ⟨gb282, 0, none⟩ (.int .i64 ((rd_T127 l0 x8_1).f0))).setCell ⟨gb282, 1, none⟩ (.int .i64 ((rd_T127 l0 x8_1).f1))).setCell ⟨gb282, 2, none⟩ (.slice A281_2 ((rd_T127 l0 x8_1).f2).length c281_2)).setCell ⟨gb282, 3, none⟩ (.slice A281_3 ((rd_T127 l0 x8_1).f3).length c281_3)).setCell ⟨gb282, 4, none⟩ (.slice A281_4 ((rd_T127 l0 x8_1).f4).length c281_4))) := ⟨by repeat (first | (with_reducible first | exact HB.out | apply below_alloc | apply pw_below_drewN | apply below_drew1 | refine below_set ?_ GE282.out) | exact HB.out)⟩
              (try clear BK282)
              (try clear HB)
              generalize (((((w16.setCell ⟨gb282, 0, none⟩ (.int .i64 ((rd_T127 l0 x8_1).f0))).setCell ⟨gb282, 1, none⟩ (.int .i64 ((rd_T127 l0 x8_1).f1))).setCell ⟨gb282, 2, none⟩ (.slice A281_2 ((rd_T127 l0 x8_1).f2).length c281_2)).setCell ⟨gb282, 3, none⟩ (.slice A281_3 ((rd_T127 l0 x8_1).f3).length c281_3)).setCell ⟨gb282, 4, none⟩ (.slice A281_4 ((rd_T127 l0 x8_1).f4).length c281_4)) = w18 at n0_ n1_ ⊢
              have BK282 := n0_
              have HB := n1_
              clear n0_ n1_
              have n0_ := Aside0.mk (blk_drew BK282.out)
              have n1_ := Aside0.mk (below_drew1 HB.out)
              clear BK282
              clear HB
              have BK282 := n0_
              have HB := n1_
              clear n0_ n1_
              refine start_ (n := 10) (S := fun w' => w'.cell? ⟨gb282, 0, none⟩ = some (.int .i64 ((rd_T127 l0 x8_1).f0)) ∧ w'.cell? ⟨gb282, 1, none⟩ = some (.int .i64 ((rd_T127 l0 x8_1).f1)) ∧ w'.cell? ⟨gb282, 2, none⟩ = some (.slice A281_2 ((rd_T127 l0 x8_1).f2).length c281_2) ∧ w'.cell? ⟨gb282, 3, none⟩ = some (.slice A281_3 ((rd_T127 l0 x8_1).f3).length c281_3) ∧ w'.cell? ⟨gb282, 4, none⟩ = some (.slice A281_4 ((rd_T127 l0 x8_1).f4).length c281_4)) (ds := []) #[false, false, false, false, false, false, false, false, false, false] (by kernel_rfl) rfl rfl ⟨(blk_cell BK282.out 0).trans rfl, (blk_cell BK282.out 1).trans rfl, (blk_cell BK282.out 2).trans rfl, (blk_cell BK282.out 3).trans rfl, (blk_cell BK282.out 4).trans rfl⟩ (fun hHeld => ?_); refine with_tabW codemasonref_Whiles.tab7 codemasonref_Whiles.bits7 (fun HT_ HW_ => ?_)
              generalize w18.drew = w19 at BK282 HB hHeld ⊢
              refine pure_ (i := 0) (N := some 17) (v := ?_) (a' := ?_) #[true, false, false, false, false, false, false, false, false, false] rfl rfl (any_of HT_.out (by kernel_rfl)) (fun _ _ _ h => h) (Or.inl ⟨by rfl, ?_⟩) ?_ ?_
              rotate_left
              · intro w'
                go_simp
                with_reducible rfl
              rotate_left
              · simp only [Act.put, List.setIfInBounds_toArray, List.set_cons_zero, List.set_cons_succ, i64_w, i32_w]
                rfl
              refine pure_ (i := 1) (N := some 18) (v := ?_) (a' := ?_) #[true, true, false, false, false, false, false, false, false, false] rfl rfl (any_of HT_.out (by kernel_rfl)) (fun _ _ _ h => h) (Or.inl ⟨by rfl, ?_⟩) ?_ ?_
              rotate_left
              · intro w'
                go_simp
                with_reducible rfl
              rotate_left
              · simp only [Act.put, List.setIfInBounds_toArray, List.set_cons_zero, List.set_cons_succ, i64_w, i32_w]
                rfl
              refine pure_ (i := 5) (N := some 22) (v := ?_) (a' := ?_) #[true, true, false, false, false, true, false, false, false, false] rfl rfl (any_of HT_.out (by kernel_rfl)) (fun _ _ _ h => h) (Or.inl ⟨by rfl, ?_⟩) ?_ ?_
              rotate_left
              · intro w'
                go_simp
                with_reducible rfl
              rotate_left
              · simp only [Act.put, List.setIfInBounds_toArray, List.set_cons_zero, List.set_cons_succ, i64_w, i32_w]
                rfl
              refine take_ (i := 2) (N := some 19) (v := ?_) (a' := ?_) #[true, true, true, false, false, true, false, false, false, false] rfl rfl (take_ofW HT_.out HW_.out (by kernel_rfl)) (fun _ _ _ h => h) (Or.inl ⟨by rfl, ?_⟩) hHeld ?_ ?_
              rotate_left
              · rintro w' ⟨s0, s1, s2, s3, s4⟩
                go_simp
                with_reducible rfl
              rotate_left
              · simp only [Act.put, List.setIfInBounds_toArray, List.set_cons_zero, List.set_cons_succ, i64_w, i32_w]
                rfl
              refine take_ (i := 6) (N := some 23) (v := ?_) (a' := ?_) #[true, true, true, false, false, true, true, false, false, false] rfl rfl (take_ofW HT_.out HW_.out (by kernel_rfl)) (fun _ _ _ h => h) (Or.inl ⟨by rfl, ?_⟩) hHeld ?_ ?_
              rotate_left
              · rintro w' ⟨s0, s1, s2, s3, s4⟩
                go_simp
                with_reducible rfl
              rotate_left
              · simp only [Act.put, List.setIfInBounds_toArray, List.set_cons_zero, List.set_cons_succ, i64_w, i32_w]
                rfl
              refine one_ (i := 3) (N := some 20) #[true, true, true, true, false, true, true, false, false, false] rfl rfl (one_of HT_.out (by kernel_rfl)) (by decide) (fun K hK => ?_)
              refine goes_ Try.func32 (by kernel_rfl) rfl #[.slice A281_3 ((rd_T127 l0 x8_1).f3).length c281_3] (by rfl) rfl rfl (by (try simp only [List.map_toArray, List.map_cons, List.map_nil]); first | done | rfl | (simp only [List.length_drop, List.length_take]; rfl)) ?_
              with_reducible refine (ih k1 (by have := HK1.out; omega) _ _ ((rd_T127 l0 x8_1).f3) t285 _ ?side1 ?side2 A14.out).mono ?_
              (case side1 => repeat (first | exact (Kd.C_below HR281_3.out HB.out) | (with_reducible refine Kd.C_alloc ?_ _) | (with_reducible refine Kd.C_drewN ?_ _) | (with_reducible refine Kd.C_drew ?_)))
              (case side2 => exact HC281_3.out)
              rintro e w20 ⟨rfl, hb⟩
              refine ⟨_, rfl, ?_⟩
              have n0_ := Aside0.mk (blk_below (g := gb282) (o := .cells #[.int .i64 ((rd_T127 l0 x8_1).f0), .int .i64 ((rd_T127 l0 x8_1).f1), .slice A281_2 ((rd_T127 l0 x8_1).f2).length c281_2, .slice A281_3 ((rd_T127 l0 x8_1).f3).length c281_3, .slice A281_4 ((rd_T127 l0 x8_1).f4).length c281_4] 127 (0, 0)) (by (with_reducible repeat (first | refine blk_drewN ?_ _ | refine blk_drew ?_ | refine blk_alloc ?_ _)); exact BK282.out) hb)
              have n1_ := Aside0.mk (below_step (by repeat (first | (with_reducible first | exact HB.out | apply below_alloc | apply pw_below_drewN | apply below_drew1 | refine below_set ?_ GE282.out) | exact HB.out)) hb)
              clear BK282
              clear HB
              have BK282 := n0_
              have HB := n1_
              clear n0_ n1_
              (try clear hb)
              (try clear hb2)
              (try clear hk)
              (try clear hi)
              refine hK.out _ _ ⟨(blk_cell BK282.out 0).trans rfl, (blk_cell BK282.out 1).trans rfl, (blk_cell BK282.out 2).trans rfl, (blk_cell BK282.out 3).trans rfl, (blk_cell BK282.out 4).trans rfl⟩ (fun hHeld => ?_)
              clear hK K
              refine norm_ (a' := ?_) ?_ ?_
              rotate_left
              · show Act.put _ (some 20) _ = _
                simp only [Act.put, List.setIfInBounds_toArray, List.set_cons_zero, List.set_cons_succ, i64_w, i32_w]
                rfl
              refine pure_ (i := 4) (N := some 21) (v := ?_) (a' := ?_) #[true, true, true, true, true, true, true, false, false, false] rfl rfl (any_of HT_.out (by kernel_rfl)) (fun _ _ _ h => h) (Or.inl ⟨by rfl, ?_⟩) ?_ ?_
              rotate_left
              · intro w'
                go_simp
                with_reducible rfl
              rotate_left
              · simp only [Act.put, List.setIfInBounds_toArray, List.set_cons_zero, List.set_cons_succ, i64_w, i32_w]
                rfl
              refine one_ (i := 7) (N := some 24) #[true, true, true, true, true, true, true, true, false, false] rfl rfl (one_of HT_.out (by kernel_rfl)) (by decide) (fun K hK => ?_)
              refine goes_ Try.func32 (by kernel_rfl) rfl #[.slice A281_4 ((rd_T127 l0 x8_1).f4).length c281_4] (by rfl) rfl rfl (by (try simp only [List.map_toArray, List.map_cons, List.map_nil]); first | done | rfl | (simp only [List.length_drop, List.length_take]; rfl)) ?_
              with_reducible refine (ih k1 (by have := HK1.out; omega) _ _ ((rd_T127 l0 x8_1).f4) t286 _ ?side1 ?side2 A15.out).mono ?_
              (case side1 => repeat (first | exact (Kd.C_below HR281_4.out HB.out) | (with_reducible refine Kd.C_alloc ?_ _) | (with_reducible refine Kd.C_drewN ?_ _) | (with_reducible refine Kd.C_drew ?_)))
              (case side2 => exact HC281_4.out)
              rintro e w21 ⟨rfl, hb⟩
              refine ⟨_, rfl, ?_⟩
              have n0_ := Aside0.mk (blk_below (g := gb282) (o := .cells #[.int .i64 ((rd_T127 l0 x8_1).f0), .int .i64 ((rd_T127 l0 x8_1).f1), .slice A281_2 ((rd_T127 l0 x8_1).f2).length c281_2, .slice A281_3 ((rd_T127 l0 x8_1).f3).length c281_3, .slice A281_4 ((rd_T127 l0 x8_1).f4).length c281_4] 127 (0, 0)) (by (with_reducible repeat (first | refine blk_drewN ?_ _ | refine blk_drew ?_ | refine blk_alloc ?_ _)); exact BK282.out) hb)
              have n1_ := Aside0.mk (below_step (by repeat (first | (with_reducible first | exact HB.out | apply below_alloc | apply pw_below_drewN | apply below_drew1 | refine below_set ?_ GE282.out) | exact HB.out)) hb)
              clear BK282
              clear HB
              have BK282 := n0_
              have HB := n1_
              clear n0_ n1_
              (try clear hb)
              (try clear hb2)
              (try clear hk)
              (try clear hi)
              refine hK.out _ _ ⟨(blk_cell BK282.out 0).trans rfl, (blk_cell BK282.out 1).trans rfl, (blk_cell BK282.out 2).trans rfl, (blk_cell BK282.out 3).trans rfl, (blk_cell BK282.out 4).trans rfl⟩ (fun hHeld => ?_)
              clear hK K
              refine norm_ (a' := ?_) ?_ ?_
              rotate_left
              · show Act.put _ (some 24) _ = _
                simp only [Act.put, List.setIfInBounds_toArray, List.set_cons_zero, List.set_cons_succ, i64_w, i32_w]
                rfl
              refine pure_ (i := 8) (N := some 25) (v := ?_) (a' := ?_) #[true, true, true, true, true, true, true, true, true, false] rfl rfl (any_of HT_.out (by kernel_rfl)) (fun _ _ _ h => h) (Or.inl ⟨by rfl, ?_⟩) ?_ ?_
              rotate_left
              · intro w'
                go_simp
                with_reducible rfl
              rotate_left
              · simp only [Act.put, List.setIfInBounds_toArray, List.set_cons_zero, List.set_cons_succ, i64_w, i32_w]
                rfl
              refine pure_ (i := 9) (N := some 3) (v := ?_) (a' := ?_) #[true, true, true, true, true, true, true, true, true, true] rfl rfl (any_of HT_.out (by kernel_rfl)) (fun _ _ _ h => h) (Or.inl ⟨by rfl, ?_⟩) ?_ ?_
              rotate_left
              · intro w'
                go_simp
                with_reducible rfl
              rotate_left
              · simp only [Act.put, List.setIfInBounds_toArray, List.set_cons_zero, List.set_cons_succ, i64_w, i32_w]
                rfl
              refine done_ (done_of HT_.out (by kernel_rfl)) ?_
              try go_wp2
              go_roundg k1
              case measure => have := HK1.out; omega
              case rel => exact ⟨(wrap64 ((wrap64 (x3_1 + t285)) + t286)), (wrap64 (x8_1 + 1)), (by first | rfl | (simp; done) | (simp [*]; done)), (by first | rfl | (simp; done) | (simp [*]; done)), H', ⟨by have := HK1.out; omega⟩, ⟨by repeat (first | (with_reducible first | exact HB.out | apply below_alloc | apply pw_below_drewN | apply below_drew1 | refine below_set ?_ GE282.out) | exact HB.out)⟩⟩
          · rw [if_neg c4] at H
            exact absurd H (by simp)
        · rw [if_neg c3] at H
          exact absurd H (by simp)
      · rw [if_neg c2] at H
        have c2b0 : decide (x8_1 < (l0.length : Int)) = false := decide_eq_false c2
        clear c2
        obtain rfl := Option.some.inj H
        go_wp2
        go_ret
        exact ⟨by first | rfl | (simp [errW_none, errW_some] <;> rfl) | (simp [*, errW_none, errW_some] <;> rfl), by repeat (first | (with_reducible first | exact HB.out | apply below_alloc | apply pw_below_drewN | apply below_drew1) | exact HB.out)⟩
end Go.Proofs.Ytaicamjpcnhjcaa.PA
namespace Go.Proofs.Ytaicamjpcnhjcaa.PA
open Go.RowKit Go.Proofs.YtaicamjpcnhjcaaW.PrintWords Go.Proofs.YtaicamjpcnhjcaaW.PrintLast Go.Proofs.YtaicamjpcnhjcaaW.PrintMore
set_option linter.unusedVariables false
set_option linter.unusedSimpArgs false
mutual
def codemasonref_Op.j0 : Nat → Int → Int → Int → Int → Option (Int)
  | 0, _, _, _, _ => none
  | k + 1, x0, x1, x2, x7 => if x0 = 4 then (codemasonref_Op.j1 k x0 x1 x2 (wrap64 ((wrap64 (x1 - x2)) + 256))) else (codemasonref_Op.j1 k x0 x1 x2 x7)
def codemasonref_Op.j1 : Nat → Int → Int → Int → Int → Option (Int)
  | 0, _, _, _, _ => none
  | k + 1, x0, x1, x2, x7 => if x0 = 5 then (if x0 = 6 then (if x1 < x2 then (some ((1 : Int) % 256)) else (some (Int.tmod (wrap64 (x1 * x2)) 256))) else (some (Int.tmod (wrap64 (x1 * x2)) 256))) else (if x0 = 6 then (if x1 < x2 then (some ((1 : Int) % 256)) else (some (Int.tmod x7 256))) else (some (Int.tmod x7 256)))
end
def codemasonref_Op.f (k : Nat) (a0 : Int) (a1 : Int) (a2 : Int) : Option (Int) := if a0 = 3 then (codemasonref_Op.j0 k a0 a1 a2 (wrap64 (a1 + a2))) else (codemasonref_Op.j0 k a0 a1 a2 0)
theorem codemasonref_Op.mono_l : ∀ k, (∀ y0 y1 y2 y3, LeO (codemasonref_Op.j0 k y0 y1 y2 y3) (codemasonref_Op.j0 (k + 1) y0 y1 y2 y3)) ∧ (∀ y0 y1 y2 y3, LeO (codemasonref_Op.j1 k y0 y1 y2 y3) (codemasonref_Op.j1 (k + 1) y0 y1 y2 y3))
  | 0 => ⟨fun _ _ _ _ r h => by simp [codemasonref_Op.j0] at h, fun _ _ _ _ r h => by simp [codemasonref_Op.j1] at h⟩
  | k + 1 => by
    obtain ⟨ih0, ih1⟩ := codemasonref_Op.mono_l k
    refine ⟨?_, ?_⟩
    · intro y0 y1 y2 y3
      unfold codemasonref_Op.j0
      repeat' first
      | (with_reducible exact ih0 _ _ _ _)
      | (with_reducible exact ih1 _ _ _ _)
      | (with_reducible exact LeO.refl _)
      | (with_reducible exact LeO.none _)
      | (with_reducible refine LeO.ite ?_ ?_)
      | (with_reducible refine LeO.bind ?_ (fun _ => ?_))
      | exact ih0 _ _ _ _
      | exact ih1 _ _ _ _
      | exact LeO.none _
      | refine LeO.ite ?_ ?_
      | refine LeO.bind ?_ (fun _ => ?_)
    · intro y0 y1 y2 y3
      unfold codemasonref_Op.j1
      repeat' first
      | (with_reducible exact ih0 _ _ _ _)
      | (with_reducible exact ih1 _ _ _ _)
      | (with_reducible exact LeO.refl _)
      | (with_reducible exact LeO.none _)
      | (with_reducible refine LeO.ite ?_ ?_)
      | (with_reducible refine LeO.bind ?_ (fun _ => ?_))
      | exact ih0 _ _ _ _
      | exact ih1 _ _ _ _
      | exact LeO.none _
      | refine LeO.ite ?_ ?_
      | refine LeO.bind ?_ (fun _ => ?_)
theorem codemasonref_Op.mono : ∀ a0 a1 a2 k, LeO (codemasonref_Op.f k a0 a1 a2) (codemasonref_Op.f (k + 1) a0 a1 a2) := by
  intro a0 a1 a2 k
  obtain ⟨ih0, ih1⟩ := codemasonref_Op.mono_l k
  unfold codemasonref_Op.f
  repeat' first
      | (with_reducible exact ih0 _ _ _ _)
      | (with_reducible exact ih1 _ _ _ _)
      | (with_reducible exact LeO.refl _)
      | (with_reducible exact LeO.none _)
      | (with_reducible refine LeO.ite ?_ ?_)
      | (with_reducible refine LeO.bind ?_ (fun _ => ?_))
      | exact ih0 _ _ _ _
      | exact ih1 _ _ _ _
      | exact LeO.none _
      | refine LeO.ite ?_ ?_
      | refine LeO.bind ?_ (fun _ => ?_)
set_option maxHeartbeats 8000000 in
set_option maxRecDepth 100000 in
theorem codemasonref_Op.calls (k : Nat) (a0 : Int) (a1 : Int) (a2 : Int) (r : Int) (w : World) (h : codemasonref_Op.f k a0 a1 a2 = some r) :
    Calls Try.prog 105 #[.int .i64 a0, .int .i64 a1, .int .i64 a2] w fun e w' => e = .returned (.int .i64 r) ∧ Drawn0 w w' := by
  have H : (if a0 = 3 then (codemasonref_Op.j0 k a0 a1 a2 (wrap64 (a1 + a2))) else (codemasonref_Op.j0 k a0 a1 a2 0)) = some r := h
  clear h
  have HC4 := Aside0.mk H
  clear H
  go_enter Try.func105, Try.ntmps105
  go_upto_if 9 with (fail)
  go_cut [7] (fun v7 wc => ∃ (kq : Nat) (x7_3 : Int), v7 = .int .i64 x7_3 ∧ Aside0 (codemasonref_Op.j0 kq a0 a1 a2 x7_3 = some r) ∧ Aside0 (kq ≤ k) ∧ Drawn0 w wc)
  case first =>
    have H := HC4.out
    clear HC4
    by_cases c5 : a0 = 3
    · rw [if_pos c5] at H
      have c5b0 : (a0 == 3) = true := beq_iff_eq.mpr c5
      have c5b1 : (a0 != 3) = false := bne_eq_false_iff_eq.mpr c5
      clear c5
      (first | rw [c5b0] | (simp only [i64_w, i32_w]; rw [c5b0]) | skip)
      have H' := Aside0.mk H
      clear H
      go_wp2
      go_meet
      case rel => exact ⟨_, (wrap64 (a1 + a2)), (by first | rfl | (simp; done) | (simp [*]; done)), H', ⟨by first | omega | exact Nat.le_refl _⟩, by repeat (first | exact Drawn0.refl _ | apply Drawn0.step)⟩
    · rw [if_neg c5] at H
      have c5b0 : (a0 == 3) = false := beq_eq_false_iff_ne.mpr c5
      have c5b1 : (a0 != 3) = true := bne_iff_ne.mpr c5
      (first | rw [c5b0] | (simp only [i64_w, i32_w]; rw [c5b0]) | skip)
      have H' := Aside0.mk H
      clear H
      go_wp2
      go_meet
      case rel => exact ⟨_, (0), (by first | rfl | (simp; done) | (simp [*]; done)), H', ⟨by first | omega | exact Nat.le_refl _⟩, by repeat (first | exact Drawn0.refl _ | apply Drawn0.step)⟩
  case rest =>
    clear HC4
    try clear c1
    try clear p2
    try clear c5
    try clear c5b0
    try clear c5b1
    obtain ⟨kq, x7_3, rfl, HA, HJ3, ⟨mc3, rfl⟩⟩ := hcut
    cases kq with
    | zero => exact absurd HA.out (by simp [codemasonref_Op.j0])
    | succ kj3 =>
      have H := HA.out
      clear HA
      simp only [codemasonref_Op.j0] at H
      have HC6 := Aside0.mk H
      clear H
      go_upto_if 14 with (fail)
      go_cut [7] (fun v7 wc => ∃ (kq : Nat) (x7_5 : Int), v7 = .int .i64 x7_5 ∧ Aside0 (codemasonref_Op.j1 kq a0 a1 a2 x7_5 = some r) ∧ Aside0 (kq ≤ kj3) ∧ Drawn0 w wc)
      case first =>
        have H := HC6.out
        clear HC6
        by_cases c7 : a0 = 4
        · rw [if_pos c7] at H
          have c7b0 : (a0 == 4) = true := beq_iff_eq.mpr c7
          have c7b1 : (a0 != 4) = false := bne_eq_false_iff_eq.mpr c7
          clear c7
          (first | rw [c7b0] | (simp only [i64_w, i32_w]; rw [c7b0]) | skip)
          have H' := Aside0.mk H
          clear H
          go_wp2
          go_meet
          case rel => exact ⟨_, (wrap64 ((wrap64 (a1 - a2)) + 256)), (by first | rfl | (simp; done) | (simp [*]; done)), H', ⟨by have := HJ3.out; first | omega | exact Nat.le_refl _⟩, by repeat (first | exact Drawn0.refl _ | apply Drawn0.step)⟩
        · rw [if_neg c7] at H
          have c7b0 : (a0 == 4) = false := beq_eq_false_iff_ne.mpr c7
          have c7b1 : (a0 != 4) = true := bne_iff_ne.mpr c7
          (first | rw [c7b0] | (simp only [i64_w, i32_w]; rw [c7b0]) | skip)
          have H' := Aside0.mk H
          clear H
          go_wp2
          go_meet
          case rel => exact ⟨_, (x7_3), (by first | rfl | (simp; done) | (simp [*]; done)), H', ⟨by have := HJ3.out; first | omega | exact Nat.le_refl _⟩, by repeat (first | exact Drawn0.refl _ | apply Drawn0.step)⟩
      case rest =>
        clear HC6
        try clear c1
        try clear p2
        try clear c3
        try clear c5
        try clear c5b0
        try clear c5b1
        try clear p6
        try clear c7
        try clear c7b0
        try clear c7b1
        try clear p2
        obtain ⟨kq, x7_5, rfl, HA, HJ5, ⟨mc5, rfl⟩⟩ := hcut
        cases kq with
        | zero => exact absurd HA.out (by simp [codemasonref_Op.j1])
        | succ kj5 =>
          have H := HA.out
          clear HA
          simp only [codemasonref_Op.j1] at H
          by_cases c8 : a0 = 5
          · rw [if_pos c8] at H
            have c8b0 : (a0 == 5) = true := beq_iff_eq.mpr c8
            have c8b1 : (a0 != 5) = false := bne_eq_false_iff_eq.mpr c8
            clear c8
            by_cases c9 : a0 = 6
            · rw [if_pos c9] at H
              have c9b0 : (a0 == 6) = true := beq_iff_eq.mpr c9
              have c9b1 : (a0 != 6) = false := bne_eq_false_iff_eq.mpr c9
              clear c9
              by_cases c10 : a1 < a2
              · rw [if_pos c10] at H
                have c10b0 : decide (a1 < a2) = true := decide_eq_true c10
                clear c10
                obtain rfl := Option.some.inj H
                go_wp2
                go_ret
                exact ⟨by first | rfl | (simp; done) | (simp [*]; done), by repeat (first | exact Drawn0.refl _ | apply Drawn0.step)⟩
              · rw [if_neg c10] at H
                have c10b0 : decide (a1 < a2) = false := decide_eq_false c10
                clear c10
                obtain rfl := Option.some.inj H
                go_wp2
                go_ret
                exact ⟨by first | rfl | (simp; done) | (simp [*]; done), by repeat (first | exact Drawn0.refl _ | apply Drawn0.step)⟩
            · rw [if_neg c9] at H
              have c9b0 : (a0 == 6) = false := beq_eq_false_iff_ne.mpr c9
              have c9b1 : (a0 != 6) = true := bne_iff_ne.mpr c9
              obtain rfl := Option.some.inj H
              go_wp2
              go_ret
              exact ⟨by first | rfl | (simp; done) | (simp [*]; done), by repeat (first | exact Drawn0.refl _ | apply Drawn0.step)⟩
          · rw [if_neg c8] at H
            have c8b0 : (a0 == 5) = false := beq_eq_false_iff_ne.mpr c8
            have c8b1 : (a0 != 5) = true := bne_iff_ne.mpr c8
            by_cases c11 : a0 = 6
            · rw [if_pos c11] at H
              have c11b0 : (a0 == 6) = true := beq_iff_eq.mpr c11
              have c11b1 : (a0 != 6) = false := bne_eq_false_iff_eq.mpr c11
              clear c11
              by_cases c12 : a1 < a2
              · rw [if_pos c12] at H
                have c12b0 : decide (a1 < a2) = true := decide_eq_true c12
                clear c12
                obtain rfl := Option.some.inj H
                go_wp2
                go_ret
                exact ⟨by first | rfl | (simp; done) | (simp [*]; done), by repeat (first | exact Drawn0.refl _ | apply Drawn0.step)⟩
              · rw [if_neg c12] at H
                have c12b0 : decide (a1 < a2) = false := decide_eq_false c12
                clear c12
                obtain rfl := Option.some.inj H
                go_wp2
                go_ret
                exact ⟨by first | rfl | (simp; done) | (simp [*]; done), by repeat (first | exact Drawn0.refl _ | apply Drawn0.step)⟩
            · rw [if_neg c11] at H
              have c11b0 : (a0 == 6) = false := beq_eq_false_iff_ne.mpr c11
              have c11b1 : (a0 != 6) = true := bne_iff_ne.mpr c11
              obtain rfl := Option.some.inj H
              go_wp2
              go_ret
              exact ⟨by first | rfl | (simp; done) | (simp [*]; done), by repeat (first | exact Drawn0.refl _ | apply Drawn0.step)⟩
end Go.Proofs.Ytaicamjpcnhjcaa.PA
namespace Go.Proofs.Ytaicamjpcnhjcaa.PA
open Go.RowKit Go.Proofs.YtaicamjpcnhjcaaW.PrintWords Go.Proofs.YtaicamjpcnhjcaaW.PrintLast Go.Proofs.YtaicamjpcnhjcaaW.PrintMore
set_option linter.unusedVariables false
set_option linter.unusedSimpArgs false
def codemasonref_Doing.l0 : Nat → List Int → List (S111) → Int → Int → Option (List Int)
  | 0, _, _, _, _ => none
  | k + 1, x1, x11, x12, x13 => if x13 < x12 then (if 0 ≤ x13 then (if x13 < (x11.length : Int) then (if ((rd_T111 x11 x13).f0) = 2 then (if 0 ≤ ((rd_T111 x11 x13).f4) then (if ((rd_T111 x11 x13).f4) < (x1.length : Int) then (if ((rd_T111 x11 x13).f0) ≥ 3 then (if 0 ≤ ((rd_T111 x11 x13).f2) then (if ((rd_T111 x11 x13).f2) < (x1.length : Int) then (if 0 ≤ ((rd_T111 x11 x13).f3) then (if ((rd_T111 x11 x13).f3) < (x1.length : Int) then ((codemasonref_Op.f k ((rd_T111 x11 x13).f0) (rd x1 ((rd_T111 x11 x13).f2)) (rd x1 ((rd_T111 x11 x13).f3))).bind fun t300 => (if 0 ≤ ((rd_T111 x11 x13).f1) then (if ((rd_T111 x11 x13).f1) < (x1.length : Int) then (codemasonref_Doing.l0 k (x1.set (((rd_T111 x11 x13).f1) : Int).toNat t300) x11 x12 (wrap64 (x13 + 1))) else (none)) else (none))) else (none)) else (none)) else (none)) else (none)) else (if 0 ≤ ((rd_T111 x11 x13).f1) then (if ((rd_T111 x11 x13).f1) < (x1.length : Int) then (codemasonref_Doing.l0 k (x1.set (((rd_T111 x11 x13).f1) : Int).toNat (rd x1 ((rd_T111 x11 x13).f4))) x11 x12 (wrap64 (x13 + 1))) else (none)) else (none))) else (none)) else (none)) else (if ((rd_T111 x11 x13).f0) ≥ 3 then (if 0 ≤ ((rd_T111 x11 x13).f2) then (if ((rd_T111 x11 x13).f2) < (x1.length : Int) then (if 0 ≤ ((rd_T111 x11 x13).f3) then (if ((rd_T111 x11 x13).f3) < (x1.length : Int) then ((codemasonref_Op.f k ((rd_T111 x11 x13).f0) (rd x1 ((rd_T111 x11 x13).f2)) (rd x1 ((rd_T111 x11 x13).f3))).bind fun t305 => (if 0 ≤ ((rd_T111 x11 x13).f1) then (if ((rd_T111 x11 x13).f1) < (x1.length : Int) then (codemasonref_Doing.l0 k (x1.set (((rd_T111 x11 x13).f1) : Int).toNat t305) x11 x12 (wrap64 (x13 + 1))) else (none)) else (none))) else (none)) else (none)) else (none)) else (none)) else (if 0 ≤ ((rd_T111 x11 x13).f1) then (if ((rd_T111 x11 x13).f1) < (x1.length : Int) then (codemasonref_Doing.l0 k (x1.set (((rd_T111 x11 x13).f1) : Int).toNat ((rd_T111 x11 x13).f4)) x11 x12 (wrap64 (x13 + 1))) else (none)) else (none)))) else (none)) else (none)) else (some x1)
def codemasonref_Doing.f (k : Nat) (l0 : List (S111)) (l1 : List Int) : Option (List Int) := (some (([] : List Int) : List Int)).bind fun y289 => (if y289.length + l1.length < 17592186044416 then (codemasonref_Doing.l0 k (y289 ++ l1) l0 (l0.length : Int) 0) else (none))
theorem codemasonref_Doing.mono_l : ∀ k, (∀ y0 y1 y2 y3, LeO (codemasonref_Doing.l0 k y0 y1 y2 y3) (codemasonref_Doing.l0 (k + 1) y0 y1 y2 y3))
  | 0 => fun _ _ _ _ r h => by simp [codemasonref_Doing.l0] at h
  | k + 1 => by
    have ih0 := codemasonref_Doing.mono_l k
    · intro y0 y1 y2 y3
      unfold codemasonref_Doing.l0
      repeat' first
      | (with_reducible exact ih0 _ _ _ _)
      | (with_reducible exact codemasonref_Op.mono _ _ _ _)
      | (with_reducible exact LeO.refl _)
      | (with_reducible exact LeO.none _)
      | (with_reducible refine LeO.ite ?_ ?_)
      | (with_reducible refine LeO.bind ?_ (fun _ => ?_))
      | exact ih0 _ _ _ _
      | exact codemasonref_Op.mono _ _ _ _
      | exact LeO.none _
      | refine LeO.ite ?_ ?_
      | refine LeO.bind ?_ (fun _ => ?_)
theorem codemasonref_Doing.mono : ∀ a0 a1 k, LeO (codemasonref_Doing.f k a0 a1) (codemasonref_Doing.f (k + 1) a0 a1) := by
  intro a0 a1 k
  have ih0 := codemasonref_Doing.mono_l k
  unfold codemasonref_Doing.f
  repeat' first
      | (with_reducible exact ih0 _ _ _ _)
      | (with_reducible exact codemasonref_Op.mono _ _ _ _)
      | (with_reducible exact LeO.refl _)
      | (with_reducible exact LeO.none _)
      | (with_reducible refine LeO.ite ?_ ?_)
      | (with_reducible refine LeO.bind ?_ (fun _ => ?_))
      | exact ih0 _ _ _ _
      | exact codemasonref_Op.mono _ _ _ _
      | exact LeO.none _
      | refine LeO.ite ?_ ?_
      | refine LeO.bind ?_ (fun _ => ?_)
set_option maxHeartbeats 8000000 in
set_option maxRecDepth 100000 in
theorem codemasonref_Doing.calls (k : Nat) (A0 : Option Addr) (c0 : Nat) (l0 : List (S111)) (A1 : Option Addr) (c1 : Nat) (l1 : List Int) (r : List Int) (w : World) (hr0 : Kd.C k111 w A0 l0.length l0) (hc0 : l0.length ≤ c0) (hr1 : Kd.C (Kd.int .i64) w A1 l1.length l1) (hc1 : l1.length ≤ c1) (h : codemasonref_Doing.f k l0 l1 = some r) :
    Calls Try.prog 83 #[.slice A0 l0.length c0, .slice A1 l1.length c1] w fun e w' => ∃ v0_ : Value, e = .returned (v0_) ∧ Kd.R (Kd.int .i64) 3 w' w.heap.size (fun _ => True) v0_ r ∧ Below w.heap.size w w' := by
  have hu111 := Try.underlying111
  have HR0 := Aside0.mk hr0
  have HC0 := Aside0.mk hc0
  clear hr0 hc0
  have HR1 := Aside0.mk hr1
  have HC1 := Aside0.mk hc1
  clear hr1 hc1
  have HB := Aside0.mk (Below.refl w.heap.size w)
  have H : ((some (([] : List Int) : List Int)).bind fun y289 => (if y289.length + l1.length < 17592186044416 then (codemasonref_Doing.l0 k (y289 ++ l1) l0 (l0.length : Int) 0) else (none))) = some r := h
  clear h
  obtain ⟨y289, hy289⟩ : ∃ y_ : List Int, y_ = (([] : List Int)) := ⟨_, rfl⟩
  replace H : (if y289.length + l1.length < 17592186044416 then (codemasonref_Doing.l0 k (y289 ++ l1) l0 (l0.length : Int) 0) else (none)) = some r := by first | (rw [hy289]; with_reducible exact H) | (have H2_ := (Option.bind_some _ _).symm.trans H; rw [hy289]; with_reducible exact H2_) | (have H2_ := (Option.bind_some _ _).symm.trans H; with_reducible exact H2_) | with_reducible exact H | (rw [hy289]; exact H) | exact H
  have Ny289 := Aside0.mk hy289
  clear hy289
  by_cases c3 : y289.length + l1.length < 17592186044416
  · rw [if_pos c3] at H
    have LMc3 := Aside0.mk c3
    clear c3
    obtain ⟨y292, hy292⟩ : ∃ y_ : List Int, y_ = (y289 ++ l1) := ⟨_, rfl⟩
    replace H : (codemasonref_Doing.l0 k y292 l0 (l0.length : Int) 0) = some r := by first | (rw [hy292]; with_reducible exact H) | (have H2_ := (Option.bind_some _ _).symm.trans H; rw [hy292]; with_reducible exact H2_) | (have H2_ := (Option.bind_some _ _).symm.trans H; with_reducible exact H2_) | with_reducible exact H | (rw [hy292]; exact H) | exact H
    have Ny292 := Aside0.mk hy292
    clear hy292
    have H' := Aside0.mk H
    clear H
    go_enter Try.func83, Try.ntmps83
    go_wp2_with (first | ((with_reducible refine gate_dst (N := 8) rfl ?_); refine Kd.R_lit (Kd.int .i64) _ 3 ?hg (N := 8) ?hd (xs := ([] : List Int)) (inner := []) (ok := fun _ => True) (okp := fun _ => True) ?hr ?hp (fun _ hk => hk) trivial (Below.refl _ _) (Nat.le_refl _) (by simp) ?_; (case hd => rfl); (case hg => rfl); (case hr => first | (go_simp; done) | (go_simp; rfl)); (case hp => exact (Reps.none _ _)); intro v290 w4 ho5 hb hg_ hnew_; clear hg_ hnew_; (first | rw [← Ny289.out] at ho5 | (simp only [Int.reduceToNat] at ho5; rw [← Ny289.out] at ho5)); have n0_ := Aside0.mk (Kd.R_lower ho5 (below_size (by repeat (first | (with_reducible first | exact HB.out | apply below_alloc | apply pw_below_drewN | apply below_drew1) | exact HB.out)))); have n1_ := Aside0.mk (below_step (by repeat (first | (with_reducible first | exact HB.out | apply below_alloc | apply pw_below_drewN | apply below_drew1) | exact HB.out)) hb); clear HB; have HO291 := n0_; have HB := n1_; clear n0_ n1_; clear hb ho5) | ((with_reducible refine gate_builtin (b := .append) (xs := #[.tmp 8, .tmp 9]) rfl ?_); at_builtin; refine Kd.R_append_rows (Kd.int .i64) (w0 := w) w.heap.size rfl (.tmp 8) (.tmp 9) 23 3 (.int .i64 0) 8 rfl Try.underlying23 info3 rfl (by decide) (by omega) v290 y289 l1 _ _ _ (fun _ => True) (fun _ => False) rfl rfl ?aO ?aR (fun _ _ h => h) (fun _ h => h.elim) ?aF ?aB ?aS ?aL ?_; (case aR => repeat (first | exact (Kd.C_below HR1.out HB.out) | (with_reducible refine Kd.C_alloc ?_ _) | (with_reducible refine Kd.C_drewN ?_ _) | (with_reducible refine Kd.C_drew ?_))); (case aB => exact (by repeat (first | (with_reducible first | exact HB.out | apply below_alloc | apply pw_below_drewN | apply below_drew1) | exact HB.out))); (case aF => exact (fun _ _ => trivial)); (case aO => exact (by (with_reducible repeat (first | apply Kd.R_alloc | apply Kd.R_drewN | apply Kd.R_drew)); exact HO291.out)); (case aS => exact (below_size (by repeat (first | (with_reducible first | exact HB.out | apply below_alloc | apply pw_below_drewN | apply below_drew1) | exact HB.out)))); (case aL => have := LMc3.out; omega); intro v293 w6 ho hb hg hat; rw [← Ny292.out] at ho; have n0_ := Aside0.mk (hb); have n1_ := Aside0.mk (ho); clear HB; clear HO291; have HB := n0_; have HO294 := n1_; clear n0_ n1_; clear ho hb hg hat))
    repeat (go_quiet (first | ((with_reducible refine gate_dst (N := 8) rfl ?_); refine Kd.R_lit (Kd.int .i64) _ 3 ?hg (N := 8) ?hd (xs := ([] : List Int)) (inner := []) (ok := fun _ => True) (okp := fun _ => True) ?hr ?hp (fun _ hk => hk) trivial (Below.refl _ _) (Nat.le_refl _) (by simp) ?_; (case hd => rfl); (case hg => rfl); (case hr => first | (go_simp; done) | (go_simp; rfl)); (case hp => exact (Reps.none _ _)); intro v290 w4 ho5 hb hg_ hnew_; clear hg_ hnew_; (first | rw [← Ny289.out] at ho5 | (simp only [Int.reduceToNat] at ho5; rw [← Ny289.out] at ho5)); have n0_ := Aside0.mk (Kd.R_lower ho5 (below_size (by repeat (first | (with_reducible first | exact HB.out | apply below_alloc | apply pw_below_drewN | apply below_drew1) | exact HB.out)))); have n1_ := Aside0.mk (below_step (by repeat (first | (with_reducible first | exact HB.out | apply below_alloc | apply pw_below_drewN | apply below_drew1) | exact HB.out)) hb); clear HB; have HO291 := n0_; have HB := n1_; clear n0_ n1_; clear hb ho5) | ((with_reducible refine gate_builtin (b := .append) (xs := #[.tmp 8, .tmp 9]) rfl ?_); at_builtin; refine Kd.R_append_rows (Kd.int .i64) (w0 := w) w.heap.size rfl (.tmp 8) (.tmp 9) 23 3 (.int .i64 0) 8 rfl Try.underlying23 info3 rfl (by decide) (by omega) v290 y289 l1 _ _ _ (fun _ => True) (fun _ => False) rfl rfl ?aO ?aR (fun _ _ h => h) (fun _ h => h.elim) ?aF ?aB ?aS ?aL ?_; (case aR => repeat (first | exact (Kd.C_below HR1.out HB.out) | (with_reducible refine Kd.C_alloc ?_ _) | (with_reducible refine Kd.C_drewN ?_ _) | (with_reducible refine Kd.C_drew ?_))); (case aB => exact (by repeat (first | (with_reducible first | exact HB.out | apply below_alloc | apply pw_below_drewN | apply below_drew1) | exact HB.out))); (case aF => exact (fun _ _ => trivial)); (case aO => exact (by (with_reducible repeat (first | apply Kd.R_alloc | apply Kd.R_drewN | apply Kd.R_drew)); exact HO291.out)); (case aS => exact (below_size (by repeat (first | (with_reducible first | exact HB.out | apply below_alloc | apply pw_below_drewN | apply below_drew1) | exact HB.out)))); (case aL => have := LMc3.out; omega); intro v293 w6 ho hb hg hat; rw [← Ny292.out] at ho; have n0_ := Aside0.mk (hb); have n1_ := Aside0.mk (ho); clear HB; clear HO291; have HB := n0_; have HO294 := n1_; clear n0_ n1_; clear ho hb hg hat)); try go_wp2_with (first | ((with_reducible refine gate_dst (N := 8) rfl ?_); refine Kd.R_lit (Kd.int .i64) _ 3 ?hg (N := 8) ?hd (xs := ([] : List Int)) (inner := []) (ok := fun _ => True) (okp := fun _ => True) ?hr ?hp (fun _ hk => hk) trivial (Below.refl _ _) (Nat.le_refl _) (by simp) ?_; (case hd => rfl); (case hg => rfl); (case hr => first | (go_simp; done) | (go_simp; rfl)); (case hp => exact (Reps.none _ _)); intro v290 w4 ho5 hb hg_ hnew_; clear hg_ hnew_; (first | rw [← Ny289.out] at ho5 | (simp only [Int.reduceToNat] at ho5; rw [← Ny289.out] at ho5)); have n0_ := Aside0.mk (Kd.R_lower ho5 (below_size (by repeat (first | (with_reducible first | exact HB.out | apply below_alloc | apply pw_below_drewN | apply below_drew1) | exact HB.out)))); have n1_ := Aside0.mk (below_step (by repeat (first | (with_reducible first | exact HB.out | apply below_alloc | apply pw_below_drewN | apply below_drew1) | exact HB.out)) hb); clear HB; have HO291 := n0_; have HB := n1_; clear n0_ n1_; clear hb ho5) | ((with_reducible refine gate_builtin (b := .append) (xs := #[.tmp 8, .tmp 9]) rfl ?_); at_builtin; refine Kd.R_append_rows (Kd.int .i64) (w0 := w) w.heap.size rfl (.tmp 8) (.tmp 9) 23 3 (.int .i64 0) 8 rfl Try.underlying23 info3 rfl (by decide) (by omega) v290 y289 l1 _ _ _ (fun _ => True) (fun _ => False) rfl rfl ?aO ?aR (fun _ _ h => h) (fun _ h => h.elim) ?aF ?aB ?aS ?aL ?_; (case aR => repeat (first | exact (Kd.C_below HR1.out HB.out) | (with_reducible refine Kd.C_alloc ?_ _) | (with_reducible refine Kd.C_drewN ?_ _) | (with_reducible refine Kd.C_drew ?_))); (case aB => exact (by repeat (first | (with_reducible first | exact HB.out | apply below_alloc | apply pw_below_drewN | apply below_drew1) | exact HB.out))); (case aF => exact (fun _ _ => trivial)); (case aO => exact (by (with_reducible repeat (first | apply Kd.R_alloc | apply Kd.R_drewN | apply Kd.R_drew)); exact HO291.out)); (case aS => exact (below_size (by repeat (first | (with_reducible first | exact HB.out | apply below_alloc | apply pw_below_drewN | apply below_drew1) | exact HB.out)))); (case aL => have := LMc3.out; omega); intro v293 w6 ho hb hg hat; rw [← Ny292.out] at ho; have n0_ := Aside0.mk (hb); have n1_ := Aside0.mk (ho); clear HB; clear HO291; have HB := n0_; have HO294 := n1_; clear n0_ n1_; clear ho hb hg hat)))
    go_loopg [13] k (fun kq v13 w' => ∃ (x1_1 : List Int) (x13_1 : Int), v13 = .int .i64 x13_1 ∧ Aside0 (codemasonref_Doing.l0 kq x1_1 l0 (l0.length : Int) x13_1 = some r) ∧ Aside0 (kq ≤ k) ∧ Aside0 (Kd.R (Kd.int .i64) 3 w' w.heap.size (fun _ => True) v293 x1_1) ∧ Aside0 (Below w.heap.size w w'))
    case atStart => exact ⟨(y292), (0), (by first | rfl | (simp; done) | (simp [*]; done)), H', ⟨Nat.le_refl _⟩, ⟨by (with_reducible repeat (first | apply Kd.R_alloc | apply Kd.R_drewN | apply Kd.R_drew)); exact HO294.out⟩, ⟨by repeat (first | (with_reducible first | exact HB.out | apply below_alloc | apply pw_below_drewN | apply below_drew1) | exact HB.out)⟩⟩
    case round =>
      clear H'
      try clear c1
      try clear p2
      try clear c3
      obtain ⟨x1_1, x13_1, rfl, HA, HK1, HO_1, HB⟩ := hrel
      cases gk with
      | zero => exact absurd HA.out (by simp [codemasonref_Doing.l0])
      | succ k1 =>
        have H := HA.out
        clear HA
        simp only [codemasonref_Doing.l0] at H
        by_cases c7 : x13_1 < (l0.length : Int)
        · rw [if_pos c7] at H
          have c7b0 : decide (x13_1 < (l0.length : Int)) = true := decide_eq_true c7
          clear c7
          by_cases c8 : 0 ≤ x13_1
          · rw [if_pos c8] at H
            have c8b0 : decide (0 ≤ x13_1) = true := decide_eq_true c8
            clear c8
            by_cases c9 : x13_1 < (l0.length : Int)
            · rw [if_pos c9] at H
              have c9b0 : decide (x13_1 < (l0.length : Int)) = true := decide_eq_true c9
              clear c9
              by_cases c10 : ((rd_T111 l0 x13_1).f0) = 2
              · rw [if_pos c10] at H
                have c10b0 : (((rd_T111 l0 x13_1).f0) == 2) = true := beq_iff_eq.mpr c10
                have c10b1 : (((rd_T111 l0 x13_1).f0) != 2) = false := bne_eq_false_iff_eq.mpr c10
                clear c10
                by_cases c11 : 0 ≤ ((rd_T111 l0 x13_1).f4)
                · rw [if_pos c11] at H
                  have c11b0 : decide (0 ≤ ((rd_T111 l0 x13_1).f4)) = true := decide_eq_true c11
                  clear c11
                  by_cases c12 : ((rd_T111 l0 x13_1).f4) < (x1_1.length : Int)
                  · rw [if_pos c12] at H
                    have c12b0 : decide (((rd_T111 l0 x13_1).f4) < (x1_1.length : Int)) = true := decide_eq_true c12
                    clear c12
                    by_cases c13 : ((rd_T111 l0 x13_1).f0) ≥ 3
                    · rw [if_pos c13] at H
                      have c13b0 : decide (3 ≤ ((rd_T111 l0 x13_1).f0)) = true := decide_eq_true c13
                      clear c13
                      by_cases c14 : 0 ≤ ((rd_T111 l0 x13_1).f2)
                      · rw [if_pos c14] at H
                        have c14b0 : decide (0 ≤ ((rd_T111 l0 x13_1).f2)) = true := decide_eq_true c14
                        clear c14
                        by_cases c15 : ((rd_T111 l0 x13_1).f2) < (x1_1.length : Int)
                        · rw [if_pos c15] at H
                          have c15b0 : decide (((rd_T111 l0 x13_1).f2) < (x1_1.length : Int)) = true := decide_eq_true c15
                          clear c15
                          by_cases c16 : 0 ≤ ((rd_T111 l0 x13_1).f3)
                          · rw [if_pos c16] at H
                            have c16b0 : decide (0 ≤ ((rd_T111 l0 x13_1).f3)) = true := decide_eq_true c16
                            clear c16
                            by_cases c17 : ((rd_T111 l0 x13_1).f3) < (x1_1.length : Int)
                            · rw [if_pos c17] at H
                              have c17b0 : decide (((rd_T111 l0 x13_1).f3) < (x1_1.length : Int)) = true := decide_eq_true c17
                              clear c17
                              replace H := Option.bind_eq_some_iff.mp H
                              obtain ⟨t300, A180, H⟩ := H
                              replace H : (if 0 ≤ ((rd_T111 l0 x13_1).f1) then (if ((rd_T111 l0 x13_1).f1) < (x1_1.length : Int) then (codemasonref_Doing.l0 k1 (x1_1.set (((rd_T111 l0 x13_1).f1) : Int).toNat t300) l0 (l0.length : Int) (wrap64 (x13_1 + 1))) else (none)) else (none)) = some r := H
                              have A18 := Aside0.mk A180
                              clear A180
                              by_cases c19 : 0 ≤ ((rd_T111 l0 x13_1).f1)
                              · rw [if_pos c19] at H
                                have c19b0 : decide (0 ≤ ((rd_T111 l0 x13_1).f1)) = true := decide_eq_true c19
                                clear c19
                                by_cases c20 : ((rd_T111 l0 x13_1).f1) < (x1_1.length : Int)
                                · rw [if_pos c20] at H
                                  have c20b0 : decide (((rd_T111 l0 x13_1).f1) < (x1_1.length : Int)) = true := decide_eq_true c20
                                  clear c20
                                  obtain ⟨y301, hy301⟩ : ∃ y_ : List Int, y_ = (x1_1.set (((rd_T111 l0 x13_1).f1) : Int).toNat t300) := ⟨_, rfl⟩
                                  replace H : (codemasonref_Doing.l0 k1 y301 l0 (l0.length : Int) (wrap64 (x13_1 + 1))) = some r := by first | (rw [hy301]; with_reducible exact H) | (have H2_ := (Option.bind_some _ _).symm.trans H; rw [hy301]; with_reducible exact H2_) | (have H2_ := (Option.bind_some _ _).symm.trans H; with_reducible exact H2_) | with_reducible exact H | (rw [hy301]; exact H) | exact H
                                  have Ny301 := Aside0.mk hy301
                                  clear hy301
                                  have H' := Aside0.mk H
                                  clear H
                                  have p295 : 0 ≤ (x13_1 : Int) := of_decide_eq_true (by first | (with_reducible assumption) | assumption)
                                  have q295 : x13_1 < (l0.length : Int) := of_decide_eq_true (by first | (with_reducible assumption) | assumption)
                                  obtain ⟨ad295, e295, hx295_0, hx295_1, hx295_2, hx295_3, hx295_4⟩ := at_T111 HR0.out x13_1 p295 q295
                                  cases e295
                                  replace hx295_0 := (HB.out.cell (World.block_lt_of_cell? w _ hx295_0)).trans hx295_0
                                  replace hx295_1 := (HB.out.cell (World.block_lt_of_cell? w _ hx295_1)).trans hx295_1
                                  replace hx295_2 := (HB.out.cell (World.block_lt_of_cell? w _ hx295_2)).trans hx295_2
                                  replace hx295_3 := (HB.out.cell (World.block_lt_of_cell? w _ hx295_3)).trans hx295_3
                                  replace hx295_4 := (HB.out.cell (World.block_lt_of_cell? w _ hx295_4)).trans hx295_4
                                  replace p295 := eq_true p295
                                  replace q295 := eq_true q295
                                  go_wp2_with (first | ((with_reducible refine gate_dst (N := 6) rfl ?_); refine box_event ?hg (N := 6) ?hd (cs := #[.int .i64 0, .int .i64 0, .int .i64 0, .int .i64 0, .int .i64 0]) (t := 111) ?hr ?_; (case hd => rfl); (case hg => rfl); (case hr => first | (go_simp; done) | (go_simp; rfl)); intro gb296 hg w22 hbox hb; have n0_ := Aside0.mk (Kd.R_below (by (with_reducible repeat (first | apply Kd.R_alloc | apply Kd.R_drewN | apply Kd.R_drew)); exact HO_1.out) hb); have n1_ := Aside0.mk (below_step (by repeat (first | (with_reducible first | exact HB.out | apply below_alloc | apply pw_below_drewN | apply below_drew1) | exact HB.out)) hb); have n2_ := Aside0.mk (hbox); have n3_ := Aside0.mk ((by rw [hg]; exact (below_size (by repeat (first | (with_reducible first | exact HB.out | apply below_alloc | apply pw_below_drewN | apply below_drew1) | exact HB.out))) : w.heap.size ≤ gb296)); have n4_ := Aside0.mk ((by rw [hg]; exact (below_size (by repeat (first | (with_reducible first | exact HB.out | apply below_alloc | apply pw_below_drewN | apply below_drew1) | exact HB.out))) : w.heap.size ≤ gb296)); clear HO_1; clear HB; have HO_1 := n0_; have HB := n1_; have BK296 := n2_; have GW296 := n3_; have GE296 := n4_; clear n0_ n1_ n2_ n3_ n4_; clear hb hbox hg; have hcz23_0 : w22.cell? ⟨gb296, 0, none⟩ = some (.int .i64 0) := (blk_cell BK296.out 0).trans rfl; have hcz23_1 : w22.cell? ⟨gb296, 1, none⟩ = some (.int .i64 0) := (blk_cell BK296.out 1).trans rfl; have hcz23_2 : w22.cell? ⟨gb296, 2, none⟩ = some (.int .i64 0) := (blk_cell BK296.out 2).trans rfl; have hcz23_3 : w22.cell? ⟨gb296, 3, none⟩ = some (.int .i64 0) := (blk_cell BK296.out 3).trans rfl; have hcz23_4 : w22.cell? ⟨gb296, 4, none⟩ = some (.int .i64 0) := (blk_cell BK296.out 4).trans rfl; have hfz23_0 := blk_frozen BK296.out 0; have hfz23_1 := blk_frozen BK296.out 1; have hfz23_2 := blk_frozen BK296.out 2; have hfz23_3 := blk_frozen BK296.out 3; have hfz23_4 := blk_frozen BK296.out 4) | ((with_reducible refine gate_store (t := 111) (p := 6) rfl ?_); (try (rw [drewN_self w22]; generalize hq_ : World.drewN w22 _ = w22; have n0_ := Aside0.mk (Kd.R_at hq_ HO_1.out); have n1_ := Aside0.mk (blk_at hq_ BK296.out); have n2_ := Aside0.mk (below_at hq_ HB.out); clear hq_ HO_1 BK296 HB; have HO_1 := n0_; have BK296 := n1_; have HB := n2_; clear n0_ n1_ n2_)); refine store_event (t := 111) (p := 6) (v := ?vo_w24) (w1 := (((((w22.setCell ⟨gb296, 0, none⟩ (.int .i64 ((rd_T111 l0 x13_1).f0))).setCell ⟨gb296, 1, none⟩ (.int .i64 ((rd_T111 l0 x13_1).f1))).setCell ⟨gb296, 2, none⟩ (.int .i64 ((rd_T111 l0 x13_1).f2))).setCell ⟨gb296, 3, none⟩ (.int .i64 ((rd_T111 l0 x13_1).f3))).setCell ⟨gb296, 4, none⟩ (.int .i64 ((rd_T111 l0 x13_1).f4)))) ?hg ?ho ?hn ?hr ?_; (case ho => rfl); (case hg => rfl); (case hn => rfl); (case hr => first | (go_simp; done) | (go_simp; rfl)); intro w24 hw; have n0_ : Aside0 (Kd.R (Kd.int .i64) 3 w24 w.heap.size (fun _ => True) v293 x1_1) := ⟨(by rw [hw]; exact (by (with_reducible repeat (first | apply Kd.R_alloc | apply Kd.R_drewN | apply Kd.R_drew)); exact Kd.R_mono (Kd.R_far (p := ⟨gb296, 4, none⟩) (Kd.R_far (p := ⟨gb296, 3, none⟩) (Kd.R_far (p := ⟨gb296, 2, none⟩) (Kd.R_far (p := ⟨gb296, 1, none⟩) (Kd.R_far (p := ⟨gb296, 0, none⟩) (Kd.R_types HO_1.out BK296.out (by decide)) (fun _ hk => hk.2) (.int .i64 ((rd_T111 l0 x13_1).f0))) (fun _ hk => hk.2) (.int .i64 ((rd_T111 l0 x13_1).f1))) (fun _ hk => hk.2) (.int .i64 ((rd_T111 l0 x13_1).f2))) (fun _ hk => hk.2) (.int .i64 ((rd_T111 l0 x13_1).f3))) (fun _ hk => hk.2) (.int .i64 ((rd_T111 l0 x13_1).f4))) (fun _ hk => trivial)))⟩; have n1_ : Aside0 (w24.heap[gb296]? = some (.cells #[.int .i64 ((rd_T111 l0 x13_1).f0), .int .i64 ((rd_T111 l0 x13_1).f1), .int .i64 ((rd_T111 l0 x13_1).f2), .int .i64 ((rd_T111 l0 x13_1).f3), .int .i64 ((rd_T111 l0 x13_1).f4)] 111 (0, 0))) := ⟨(by rw [hw]; exact (by (with_reducible repeat (first | refine blk_drewN ?_ _ | refine blk_drew ?_ | refine blk_alloc ?_ _)); refine blk_put (cs := #[.int .i64 ((rd_T111 l0 x13_1).f0), .int .i64 ((rd_T111 l0 x13_1).f1), .int .i64 ((rd_T111 l0 x13_1).f2), .int .i64 ((rd_T111 l0 x13_1).f3), .int .i64 0]) ?_ 4 _ rfl; (with_reducible repeat (first | refine blk_drewN ?_ _ | refine blk_drew ?_ | refine blk_alloc ?_ _)); refine blk_put (cs := #[.int .i64 ((rd_T111 l0 x13_1).f0), .int .i64 ((rd_T111 l0 x13_1).f1), .int .i64 ((rd_T111 l0 x13_1).f2), .int .i64 0, .int .i64 0]) ?_ 3 _ rfl; (with_reducible repeat (first | refine blk_drewN ?_ _ | refine blk_drew ?_ | refine blk_alloc ?_ _)); refine blk_put (cs := #[.int .i64 ((rd_T111 l0 x13_1).f0), .int .i64 ((rd_T111 l0 x13_1).f1), .int .i64 0, .int .i64 0, .int .i64 0]) ?_ 2 _ rfl; (with_reducible repeat (first | refine blk_drewN ?_ _ | refine blk_drew ?_ | refine blk_alloc ?_ _)); refine blk_put (cs := #[.int .i64 ((rd_T111 l0 x13_1).f0), .int .i64 0, .int .i64 0, .int .i64 0, .int .i64 0]) ?_ 1 _ rfl; (with_reducible repeat (first | refine blk_drewN ?_ _ | refine blk_drew ?_ | refine blk_alloc ?_ _)); refine blk_put (cs := #[.int .i64 0, .int .i64 0, .int .i64 0, .int .i64 0, .int .i64 0]) ?_ 0 _ rfl; (with_reducible repeat (first | refine blk_drewN ?_ _ | refine blk_drew ?_ | refine blk_alloc ?_ _)); exact BK296.out))⟩; have n2_ : Aside0 (Below w.heap.size w w24) := ⟨(by rw [hw]; exact (by repeat (first | (with_reducible first | exact HB.out | apply below_alloc | apply pw_below_drewN | apply below_drew1 | refine below_set ?_ GE296.out) | exact HB.out)))⟩; clear hw; clear HO_1; clear BK296; clear HB; have HO_1 := n0_; have BK296 := n1_; have HB := n2_; clear n0_ n1_ n2_; have hcz25_0 : w24.cell? ⟨gb296, 0, none⟩ = some (.int .i64 ((rd_T111 l0 x13_1).f0)) := (blk_cell BK296.out 0).trans rfl; have hcz25_1 : w24.cell? ⟨gb296, 1, none⟩ = some (.int .i64 ((rd_T111 l0 x13_1).f1)) := (blk_cell BK296.out 1).trans rfl; have hcz25_2 : w24.cell? ⟨gb296, 2, none⟩ = some (.int .i64 ((rd_T111 l0 x13_1).f2)) := (blk_cell BK296.out 2).trans rfl; have hcz25_3 : w24.cell? ⟨gb296, 3, none⟩ = some (.int .i64 ((rd_T111 l0 x13_1).f3)) := (blk_cell BK296.out 3).trans rfl; have hcz25_4 : w24.cell? ⟨gb296, 4, none⟩ = some (.int .i64 ((rd_T111 l0 x13_1).f4)) := (blk_cell BK296.out 4).trans rfl; have hfz25_0 := blk_frozen BK296.out 0; have hfz25_1 := blk_frozen BK296.out 1; have hfz25_2 := blk_frozen BK296.out 2; have hfz25_3 := blk_frozen BK296.out 3; have hfz25_4 := blk_frozen BK296.out 4; obtain ⟨Ao26, co26, eo26⟩ := Kd.R_slice HO_1.out; subst eo26; have p297 : 0 ≤ (((rd_T111 l0 x13_1).f4) : Int) := of_decide_eq_true (by first | (with_reducible assumption) | assumption); have q297 : ((rd_T111 l0 x13_1).f4) < (x1_1.length : Int) := of_decide_eq_true (by first | (with_reducible assumption) | assumption); obtain ⟨ad297, e297, hx297_0⟩ := Kd.at_int (Kd.R_reads' HO_1.out).2.2 ((rd_T111 l0 x13_1).f4) p297 q297; cases e297; replace p297 := eq_true p297; replace q297 := eq_true q297; have p298 : 0 ≤ (((rd_T111 l0 x13_1).f2) : Int) := of_decide_eq_true (by first | (with_reducible assumption) | assumption); have q298 : ((rd_T111 l0 x13_1).f2) < (x1_1.length : Int) := of_decide_eq_true (by first | (with_reducible assumption) | assumption); obtain ⟨ad298, e298, hx298_0⟩ := Kd.at_int (Kd.R_reads' HO_1.out).2.2 ((rd_T111 l0 x13_1).f2) p298 q298; obtain rfl : ad297 = ad298 := (by injection e298); replace p298 := eq_true p298; replace q298 := eq_true q298; have p299 : 0 ≤ (((rd_T111 l0 x13_1).f3) : Int) := of_decide_eq_true (by first | (with_reducible assumption) | assumption); have q299 : ((rd_T111 l0 x13_1).f3) < (x1_1.length : Int) := of_decide_eq_true (by first | (with_reducible assumption) | assumption); obtain ⟨ad299, e299, hx299_0⟩ := Kd.at_int (Kd.R_reads' HO_1.out).2.2 ((rd_T111 l0 x13_1).f3) p299 q299; obtain rfl : ad297 = ad299 := (by injection e299); replace p299 := eq_true p299; replace q299 := eq_true q299) | (go_at_call 105; (with_reducible refine (codemasonref_Op.calls k1 ((rd_T111 l0 x13_1).f0) (rd x1_1 ((rd_T111 l0 x13_1).f2)) (rd x1_1 ((rd_T111 l0 x13_1).f3)) t300 _ A18.out).mono ?_); rintro e w' ⟨rfl, ⟨nd, rfl⟩⟩; (try first | exact ⟨rfl, _, World.drewN_drewN _ _ _⟩ | exact ⟨rfl, _, Eq.trans (World.drewN_drewN _ _ _) (congrArg (World.drewN _) (Nat.add_assoc _ _ _))⟩); have p21 : 0 ≤ (((rd_T111 l0 x13_1).f1) : Int) := of_decide_eq_true (by first | (with_reducible assumption) | assumption); have q21 : (((rd_T111 l0 x13_1).f1) : Int) < ((x1_1.length : Int) : Int) := of_decide_eq_true (by first | (with_reducible assumption) | assumption); obtain ⟨go21, co21, eo21, gb21, gl21, cl21, HG21⟩ := Kd.R_form HO_1.out (by omega); (first | cases eo21 | (injection eo21 with ea_ en_ ec_; (first | subst ea_ | (injection ea_ with ea_; subst ea_)); subst ec_; clear en_)); have GB21 := Aside0.mk gb21; have GG21 := Aside0.mk HG21; clear gb21 gl21 HG21; (first | simp only [add_plain] at hx297_0 | skip); (first | simp only [add_plain] at hx298_0 | skip); (first | simp only [add_plain] at hx299_0 | skip); obtain ⟨hx21_0, hf21_0⟩ := Kd.R_celln 0 HO_1.out (((rd_T111 l0 x13_1).f1) : Int) p21 q21; replace p21 := eq_true p21; replace q21 := eq_true q21; obtain ⟨hy27_, hz27_⟩ := Kd.R_celln 0 HO_1.out (((rd_T111 l0 x13_1).f1) : Int) (of_decide_eq_true (by first | (with_reducible assumption) | assumption)) (of_decide_eq_true (by first | (with_reducible assumption) | assumption)); have HP27 := Kd.R_putg HO_1.out (((rd_T111 l0 x13_1).f1) : Int) t300) | ((with_reducible refine gate_store (t := 3) (p := 47) rfl ?_); (try (rw [drewN_self w24]; generalize hq_ : World.drewN w24 _ = w24; have n0_ := Aside0.mk (Kd.R_at hq_ HO_1.out); have n1_ := Aside0.mk (blk_at hq_ BK296.out); have n2_ := Aside0.mk (below_at hq_ HB.out); clear hq_ HO_1 BK296 HB; have HO_1 := n0_; have BK296 := n1_; have HB := n2_; clear n0_ n1_ n2_; (try (obtain ⟨hy27_, hz27_⟩ := Kd.R_celln 0 HO_1.out (((rd_T111 l0 x13_1).f1) : Int) (of_decide_eq_true (by first | (with_reducible assumption) | assumption)) (of_decide_eq_true (by first | (with_reducible assumption) | assumption)))); (try (have HP27 := Kd.R_putg HO_1.out (((rd_T111 l0 x13_1).f1) : Int) t300)))); refine store_event (t := 3) (p := 47) (v := ?vo_w28) (w1 := (w24.setCell ⟨go21, (((rd_T111 l0 x13_1).f1) : Int).toNat, none⟩ (.int .i64 t300))) ?hg ?ho ?hn ?hr ?_; (case ho => rfl); (case hg => rfl); (case hn => rfl); (case hr => first | (go_simp; done) | (go_simp; rfl)); intro w28 hw; have hg : w24.grownBy w28 (some go21) := (by rw [hw]; exact HP27.2); have hp_ : Kd.R (Kd.int .i64) 3 w28 w.heap.size (fun _ => True) (.slice (some ⟨go21, 0, none⟩) x1_1.length co26) y301 := (by rw [hw, Ny301.out]; exact HP27.1); clear HP27; have n0_ := Aside0.mk (hp_); have n1_ := Aside0.mk (blk_grown (g := gb296) (o := .cells #[.int .i64 ((rd_T111 l0 x13_1).f0), .int .i64 ((rd_T111 l0 x13_1).f1), .int .i64 ((rd_T111 l0 x13_1).f2), .int .i64 ((rd_T111 l0 x13_1).f3), .int .i64 ((rd_T111 l0 x13_1).f4)] 111 (0, 0)) (by (with_reducible repeat (first | refine blk_drewN ?_ _ | refine blk_drew ?_ | refine blk_alloc ?_ _)); exact BK296.out) hg (Kd.R_ne HO_1.out BK296.out (by decide))); have n2_ := Aside0.mk ((by rw [hw]; exact below_set (HB.out) GB21.out : Below w.heap.size w w28)); clear HO_1; clear BK296; clear HB; have HO_1 := n0_; have BK296 := n1_; have HB := n2_; clear n0_ n1_ n2_; clear hg hw hp_))
                                  repeat (go_quiet (first | ((with_reducible refine gate_dst (N := 6) rfl ?_); refine box_event ?hg (N := 6) ?hd (cs := #[.int .i64 0, .int .i64 0, .int .i64 0, .int .i64 0, .int .i64 0]) (t := 111) ?hr ?_; (case hd => rfl); (case hg => rfl); (case hr => first | (go_simp; done) | (go_simp; rfl)); intro gb296 hg w22 hbox hb; have n0_ := Aside0.mk (Kd.R_below (by (with_reducible repeat (first | apply Kd.R_alloc | apply Kd.R_drewN | apply Kd.R_drew)); exact HO_1.out) hb); have n1_ := Aside0.mk (below_step (by repeat (first | (with_reducible first | exact HB.out | apply below_alloc | apply pw_below_drewN | apply below_drew1) | exact HB.out)) hb); have n2_ := Aside0.mk (hbox); have n3_ := Aside0.mk ((by rw [hg]; exact (below_size (by repeat (first | (with_reducible first | exact HB.out | apply below_alloc | apply pw_below_drewN | apply below_drew1) | exact HB.out))) : w.heap.size ≤ gb296)); have n4_ := Aside0.mk ((by rw [hg]; exact (below_size (by repeat (first | (with_reducible first | exact HB.out | apply below_alloc | apply pw_below_drewN | apply below_drew1) | exact HB.out))) : w.heap.size ≤ gb296)); clear HO_1; clear HB; have HO_1 := n0_; have HB := n1_; have BK296 := n2_; have GW296 := n3_; have GE296 := n4_; clear n0_ n1_ n2_ n3_ n4_; clear hb hbox hg; have hcz23_0 : w22.cell? ⟨gb296, 0, none⟩ = some (.int .i64 0) := (blk_cell BK296.out 0).trans rfl; have hcz23_1 : w22.cell? ⟨gb296, 1, none⟩ = some (.int .i64 0) := (blk_cell BK296.out 1).trans rfl; have hcz23_2 : w22.cell? ⟨gb296, 2, none⟩ = some (.int .i64 0) := (blk_cell BK296.out 2).trans rfl; have hcz23_3 : w22.cell? ⟨gb296, 3, none⟩ = some (.int .i64 0) := (blk_cell BK296.out 3).trans rfl; have hcz23_4 : w22.cell? ⟨gb296, 4, none⟩ = some (.int .i64 0) := (blk_cell BK296.out 4).trans rfl; have hfz23_0 := blk_frozen BK296.out 0; have hfz23_1 := blk_frozen BK296.out 1; have hfz23_2 := blk_frozen BK296.out 2; have hfz23_3 := blk_frozen BK296.out 3; have hfz23_4 := blk_frozen BK296.out 4) | ((with_reducible refine gate_store (t := 111) (p := 6) rfl ?_); (try (rw [drewN_self w22]; generalize hq_ : World.drewN w22 _ = w22; have n0_ := Aside0.mk (Kd.R_at hq_ HO_1.out); have n1_ := Aside0.mk (blk_at hq_ BK296.out); have n2_ := Aside0.mk (below_at hq_ HB.out); clear hq_ HO_1 BK296 HB; have HO_1 := n0_; have BK296 := n1_; have HB := n2_; clear n0_ n1_ n2_)); refine store_event (t := 111) (p := 6) (v := ?vo_w24) (w1 := (((((w22.setCell ⟨gb296, 0, none⟩ (.int .i64 ((rd_T111 l0 x13_1).f0))).setCell ⟨gb296, 1, none⟩ (.int .i64 ((rd_T111 l0 x13_1).f1))).setCell ⟨gb296, 2, none⟩ (.int .i64 ((rd_T111 l0 x13_1).f2))).setCell ⟨gb296, 3, none⟩ (.int .i64 ((rd_T111 l0 x13_1).f3))).setCell ⟨gb296, 4, none⟩ (.int .i64 ((rd_T111 l0 x13_1).f4)))) ?hg ?ho ?hn ?hr ?_; (case ho => rfl); (case hg => rfl); (case hn => rfl); (case hr => first | (go_simp; done) | (go_simp; rfl)); intro w24 hw; have n0_ : Aside0 (Kd.R (Kd.int .i64) 3 w24 w.heap.size (fun _ => True) v293 x1_1) := ⟨(by rw [hw]; exact (by (with_reducible repeat (first | apply Kd.R_alloc | apply Kd.R_drewN | apply Kd.R_drew)); exact Kd.R_mono (Kd.R_far (p := ⟨gb296, 4, none⟩) (Kd.R_far (p := ⟨gb296, 3, none⟩) (Kd.R_far (p := ⟨gb296, 2, none⟩) (Kd.R_far (p := ⟨gb296, 1, none⟩) (Kd.R_far (p := ⟨gb296, 0, none⟩) (Kd.R_types HO_1.out BK296.out (by decide)) (fun _ hk => hk.2) (.int .i64 ((rd_T111 l0 x13_1).f0))) (fun _ hk => hk.2) (.int .i64 ((rd_T111 l0 x13_1).f1))) (fun _ hk => hk.2) (.int .i64 ((rd_T111 l0 x13_1).f2))) (fun _ hk => hk.2) (.int .i64 ((rd_T111 l0 x13_1).f3))) (fun _ hk => hk.2) (.int .i64 ((rd_T111 l0 x13_1).f4))) (fun _ hk => trivial)))⟩; have n1_ : Aside0 (w24.heap[gb296]? = some (.cells #[.int .i64 ((rd_T111 l0 x13_1).f0), .int .i64 ((rd_T111 l0 x13_1).f1), .int .i64 ((rd_T111 l0 x13_1).f2), .int .i64 ((rd_T111 l0 x13_1).f3), .int .i64 ((rd_T111 l0 x13_1).f4)] 111 (0, 0))) := ⟨(by rw [hw]; exact (by (with_reducible repeat (first | refine blk_drewN ?_ _ | refine blk_drew ?_ | refine blk_alloc ?_ _)); refine blk_put (cs := #[.int .i64 ((rd_T111 l0 x13_1).f0), .int .i64 ((rd_T111 l0 x13_1).f1), .int .i64 ((rd_T111 l0 x13_1).f2), .int .i64 ((rd_T111 l0 x13_1).f3), .int .i64 0]) ?_ 4 _ rfl; (with_reducible repeat (first | refine blk_drewN ?_ _ | refine blk_drew ?_ | refine blk_alloc ?_ _)); refine blk_put (cs := #[.int .i64 ((rd_T111 l0 x13_1).f0), .int .i64 ((rd_T111 l0 x13_1).f1), .int .i64 ((rd_T111 l0 x13_1).f2), .int .i64 0, .int .i64 0]) ?_ 3 _ rfl; (with_reducible repeat (first | refine blk_drewN ?_ _ | refine blk_drew ?_ | refine blk_alloc ?_ _)); refine blk_put (cs := #[.int .i64 ((rd_T111 l0 x13_1).f0), .int .i64 ((rd_T111 l0 x13_1).f1), .int .i64 0, .int .i64 0, .int .i64 0]) ?_ 2 _ rfl; (with_reducible repeat (first | refine blk_drewN ?_ _ | refine blk_drew ?_ | refine blk_alloc ?_ _)); refine blk_put (cs := #[.int .i64 ((rd_T111 l0 x13_1).f0), .int .i64 0, .int .i64 0, .int .i64 0, .int .i64 0]) ?_ 1 _ rfl; (with_reducible repeat (first | refine blk_drewN ?_ _ | refine blk_drew ?_ | refine blk_alloc ?_ _)); refine blk_put (cs := #[.int .i64 0, .int .i64 0, .int .i64 0, .int .i64 0, .int .i64 0]) ?_ 0 _ rfl; (with_reducible repeat (first | refine blk_drewN ?_ _ | refine blk_drew ?_ | refine blk_alloc ?_ _)); exact BK296.out))⟩; have n2_ : Aside0 (Below w.heap.size w w24) := ⟨(by rw [hw]; exact (by repeat (first | (with_reducible first | exact HB.out | apply below_alloc | apply pw_below_drewN | apply below_drew1 | refine below_set ?_ GE296.out) | exact HB.out)))⟩; clear hw; clear HO_1; clear BK296; clear HB; have HO_1 := n0_; have BK296 := n1_; have HB := n2_; clear n0_ n1_ n2_; have hcz25_0 : w24.cell? ⟨gb296, 0, none⟩ = some (.int .i64 ((rd_T111 l0 x13_1).f0)) := (blk_cell BK296.out 0).trans rfl; have hcz25_1 : w24.cell? ⟨gb296, 1, none⟩ = some (.int .i64 ((rd_T111 l0 x13_1).f1)) := (blk_cell BK296.out 1).trans rfl; have hcz25_2 : w24.cell? ⟨gb296, 2, none⟩ = some (.int .i64 ((rd_T111 l0 x13_1).f2)) := (blk_cell BK296.out 2).trans rfl; have hcz25_3 : w24.cell? ⟨gb296, 3, none⟩ = some (.int .i64 ((rd_T111 l0 x13_1).f3)) := (blk_cell BK296.out 3).trans rfl; have hcz25_4 : w24.cell? ⟨gb296, 4, none⟩ = some (.int .i64 ((rd_T111 l0 x13_1).f4)) := (blk_cell BK296.out 4).trans rfl; have hfz25_0 := blk_frozen BK296.out 0; have hfz25_1 := blk_frozen BK296.out 1; have hfz25_2 := blk_frozen BK296.out 2; have hfz25_3 := blk_frozen BK296.out 3; have hfz25_4 := blk_frozen BK296.out 4; obtain ⟨Ao26, co26, eo26⟩ := Kd.R_slice HO_1.out; subst eo26; have p297 : 0 ≤ (((rd_T111 l0 x13_1).f4) : Int) := of_decide_eq_true (by first | (with_reducible assumption) | assumption); have q297 : ((rd_T111 l0 x13_1).f4) < (x1_1.length : Int) := of_decide_eq_true (by first | (with_reducible assumption) | assumption); obtain ⟨ad297, e297, hx297_0⟩ := Kd.at_int (Kd.R_reads' HO_1.out).2.2 ((rd_T111 l0 x13_1).f4) p297 q297; cases e297; replace p297 := eq_true p297; replace q297 := eq_true q297; have p298 : 0 ≤ (((rd_T111 l0 x13_1).f2) : Int) := of_decide_eq_true (by first | (with_reducible assumption) | assumption); have q298 : ((rd_T111 l0 x13_1).f2) < (x1_1.length : Int) := of_decide_eq_true (by first | (with_reducible assumption) | assumption); obtain ⟨ad298, e298, hx298_0⟩ := Kd.at_int (Kd.R_reads' HO_1.out).2.2 ((rd_T111 l0 x13_1).f2) p298 q298; obtain rfl : ad297 = ad298 := (by injection e298); replace p298 := eq_true p298; replace q298 := eq_true q298; have p299 : 0 ≤ (((rd_T111 l0 x13_1).f3) : Int) := of_decide_eq_true (by first | (with_reducible assumption) | assumption); have q299 : ((rd_T111 l0 x13_1).f3) < (x1_1.length : Int) := of_decide_eq_true (by first | (with_reducible assumption) | assumption); obtain ⟨ad299, e299, hx299_0⟩ := Kd.at_int (Kd.R_reads' HO_1.out).2.2 ((rd_T111 l0 x13_1).f3) p299 q299; obtain rfl : ad297 = ad299 := (by injection e299); replace p299 := eq_true p299; replace q299 := eq_true q299) | (go_at_call 105; (with_reducible refine (codemasonref_Op.calls k1 ((rd_T111 l0 x13_1).f0) (rd x1_1 ((rd_T111 l0 x13_1).f2)) (rd x1_1 ((rd_T111 l0 x13_1).f3)) t300 _ A18.out).mono ?_); rintro e w' ⟨rfl, ⟨nd, rfl⟩⟩; (try first | exact ⟨rfl, _, World.drewN_drewN _ _ _⟩ | exact ⟨rfl, _, Eq.trans (World.drewN_drewN _ _ _) (congrArg (World.drewN _) (Nat.add_assoc _ _ _))⟩); have p21 : 0 ≤ (((rd_T111 l0 x13_1).f1) : Int) := of_decide_eq_true (by first | (with_reducible assumption) | assumption); have q21 : (((rd_T111 l0 x13_1).f1) : Int) < ((x1_1.length : Int) : Int) := of_decide_eq_true (by first | (with_reducible assumption) | assumption); obtain ⟨go21, co21, eo21, gb21, gl21, cl21, HG21⟩ := Kd.R_form HO_1.out (by omega); (first | cases eo21 | (injection eo21 with ea_ en_ ec_; (first | subst ea_ | (injection ea_ with ea_; subst ea_)); subst ec_; clear en_)); have GB21 := Aside0.mk gb21; have GG21 := Aside0.mk HG21; clear gb21 gl21 HG21; (first | simp only [add_plain] at hx297_0 | skip); (first | simp only [add_plain] at hx298_0 | skip); (first | simp only [add_plain] at hx299_0 | skip); obtain ⟨hx21_0, hf21_0⟩ := Kd.R_celln 0 HO_1.out (((rd_T111 l0 x13_1).f1) : Int) p21 q21; replace p21 := eq_true p21; replace q21 := eq_true q21; obtain ⟨hy27_, hz27_⟩ := Kd.R_celln 0 HO_1.out (((rd_T111 l0 x13_1).f1) : Int) (of_decide_eq_true (by first | (with_reducible assumption) | assumption)) (of_decide_eq_true (by first | (with_reducible assumption) | assumption)); have HP27 := Kd.R_putg HO_1.out (((rd_T111 l0 x13_1).f1) : Int) t300) | ((with_reducible refine gate_store (t := 3) (p := 47) rfl ?_); (try (rw [drewN_self w24]; generalize hq_ : World.drewN w24 _ = w24; have n0_ := Aside0.mk (Kd.R_at hq_ HO_1.out); have n1_ := Aside0.mk (blk_at hq_ BK296.out); have n2_ := Aside0.mk (below_at hq_ HB.out); clear hq_ HO_1 BK296 HB; have HO_1 := n0_; have BK296 := n1_; have HB := n2_; clear n0_ n1_ n2_; (try (obtain ⟨hy27_, hz27_⟩ := Kd.R_celln 0 HO_1.out (((rd_T111 l0 x13_1).f1) : Int) (of_decide_eq_true (by first | (with_reducible assumption) | assumption)) (of_decide_eq_true (by first | (with_reducible assumption) | assumption)))); (try (have HP27 := Kd.R_putg HO_1.out (((rd_T111 l0 x13_1).f1) : Int) t300)))); refine store_event (t := 3) (p := 47) (v := ?vo_w28) (w1 := (w24.setCell ⟨go21, (((rd_T111 l0 x13_1).f1) : Int).toNat, none⟩ (.int .i64 t300))) ?hg ?ho ?hn ?hr ?_; (case ho => rfl); (case hg => rfl); (case hn => rfl); (case hr => first | (go_simp; done) | (go_simp; rfl)); intro w28 hw; have hg : w24.grownBy w28 (some go21) := (by rw [hw]; exact HP27.2); have hp_ : Kd.R (Kd.int .i64) 3 w28 w.heap.size (fun _ => True) (.slice (some ⟨go21, 0, none⟩) x1_1.length co26) y301 := (by rw [hw, Ny301.out]; exact HP27.1); clear HP27; have n0_ := Aside0.mk (hp_); have n1_ := Aside0.mk (blk_grown (g := gb296) (o := .cells #[.int .i64 ((rd_T111 l0 x13_1).f0), .int .i64 ((rd_T111 l0 x13_1).f1), .int .i64 ((rd_T111 l0 x13_1).f2), .int .i64 ((rd_T111 l0 x13_1).f3), .int .i64 ((rd_T111 l0 x13_1).f4)] 111 (0, 0)) (by (with_reducible repeat (first | refine blk_drewN ?_ _ | refine blk_drew ?_ | refine blk_alloc ?_ _)); exact BK296.out) hg (Kd.R_ne HO_1.out BK296.out (by decide))); have n2_ := Aside0.mk ((by rw [hw]; exact below_set (HB.out) GB21.out : Below w.heap.size w w28)); clear HO_1; clear BK296; clear HB; have HO_1 := n0_; have BK296 := n1_; have HB := n2_; clear n0_ n1_ n2_; clear hg hw hp_)); try go_wp2_with (first | ((with_reducible refine gate_dst (N := 6) rfl ?_); refine box_event ?hg (N := 6) ?hd (cs := #[.int .i64 0, .int .i64 0, .int .i64 0, .int .i64 0, .int .i64 0]) (t := 111) ?hr ?_; (case hd => rfl); (case hg => rfl); (case hr => first | (go_simp; done) | (go_simp; rfl)); intro gb296 hg w22 hbox hb; have n0_ := Aside0.mk (Kd.R_below (by (with_reducible repeat (first | apply Kd.R_alloc | apply Kd.R_drewN | apply Kd.R_drew)); exact HO_1.out) hb); have n1_ := Aside0.mk (below_step (by repeat (first | (with_reducible first | exact HB.out | apply below_alloc | apply pw_below_drewN | apply below_drew1) | exact HB.out)) hb); have n2_ := Aside0.mk (hbox); have n3_ := Aside0.mk ((by rw [hg]; exact (below_size (by repeat (first | (with_reducible first | exact HB.out | apply below_alloc | apply pw_below_drewN | apply below_drew1) | exact HB.out))) : w.heap.size ≤ gb296)); have n4_ := Aside0.mk ((by rw [hg]; exact (below_size (by repeat (first | (with_reducible first | exact HB.out | apply below_alloc | apply pw_below_drewN | apply below_drew1) | exact HB.out))) : w.heap.size ≤ gb296)); clear HO_1; clear HB; have HO_1 := n0_; have HB := n1_; have BK296 := n2_; have GW296 := n3_; have GE296 := n4_; clear n0_ n1_ n2_ n3_ n4_; clear hb hbox hg; have hcz23_0 : w22.cell? ⟨gb296, 0, none⟩ = some (.int .i64 0) := (blk_cell BK296.out 0).trans rfl; have hcz23_1 : w22.cell? ⟨gb296, 1, none⟩ = some (.int .i64 0) := (blk_cell BK296.out 1).trans rfl; have hcz23_2 : w22.cell? ⟨gb296, 2, none⟩ = some (.int .i64 0) := (blk_cell BK296.out 2).trans rfl; have hcz23_3 : w22.cell? ⟨gb296, 3, none⟩ = some (.int .i64 0) := (blk_cell BK296.out 3).trans rfl; have hcz23_4 : w22.cell? ⟨gb296, 4, none⟩ = some (.int .i64 0) := (blk_cell BK296.out 4).trans rfl; have hfz23_0 := blk_frozen BK296.out 0; have hfz23_1 := blk_frozen BK296.out 1; have hfz23_2 := blk_frozen BK296.out 2; have hfz23_3 := blk_frozen BK296.out 3; have hfz23_4 := blk_frozen BK296.out 4) | ((with_reducible refine gate_store (t := 111) (p := 6) rfl ?_); (try (rw [drewN_self w22]; generalize hq_ : World.drewN w22 _ = w22; have n0_ := Aside0.mk (Kd.R_at hq_ HO_1.out); have n1_ := Aside0.mk (blk_at hq_ BK296.out); have n2_ := Aside0.mk (below_at hq_ HB.out); clear hq_ HO_1 BK296 HB; have HO_1 := n0_; have BK296 := n1_; have HB := n2_; clear n0_ n1_ n2_)); refine store_event (t := 111) (p := 6) (v := ?vo_w24) (w1 := (((((w22.setCell ⟨gb296, 0, none⟩ (.int .i64 ((rd_T111 l0 x13_1).f0))).setCell ⟨gb296, 1, none⟩ (.int .i64 ((rd_T111 l0 x13_1).f1))).setCell ⟨gb296, 2, none⟩ (.int .i64 ((rd_T111 l0 x13_1).f2))).setCell ⟨gb296, 3, none⟩ (.int .i64 ((rd_T111 l0 x13_1).f3))).setCell ⟨gb296, 4, none⟩ (.int .i64 ((rd_T111 l0 x13_1).f4)))) ?hg ?ho ?hn ?hr ?_; (case ho => rfl); (case hg => rfl); (case hn => rfl); (case hr => first | (go_simp; done) | (go_simp; rfl)); intro w24 hw; have n0_ : Aside0 (Kd.R (Kd.int .i64) 3 w24 w.heap.size (fun _ => True) v293 x1_1) := ⟨(by rw [hw]; exact (by (with_reducible repeat (first | apply Kd.R_alloc | apply Kd.R_drewN | apply Kd.R_drew)); exact Kd.R_mono (Kd.R_far (p := ⟨gb296, 4, none⟩) (Kd.R_far (p := ⟨gb296, 3, none⟩) (Kd.R_far (p := ⟨gb296, 2, none⟩) (Kd.R_far (p := ⟨gb296, 1, none⟩) (Kd.R_far (p := ⟨gb296, 0, none⟩) (Kd.R_types HO_1.out BK296.out (by decide)) (fun _ hk => hk.2) (.int .i64 ((rd_T111 l0 x13_1).f0))) (fun _ hk => hk.2) (.int .i64 ((rd_T111 l0 x13_1).f1))) (fun _ hk => hk.2) (.int .i64 ((rd_T111 l0 x13_1).f2))) (fun _ hk => hk.2) (.int .i64 ((rd_T111 l0 x13_1).f3))) (fun _ hk => hk.2) (.int .i64 ((rd_T111 l0 x13_1).f4))) (fun _ hk => trivial)))⟩; have n1_ : Aside0 (w24.heap[gb296]? = some (.cells #[.int .i64 ((rd_T111 l0 x13_1).f0), .int .i64 ((rd_T111 l0 x13_1).f1), .int .i64 ((rd_T111 l0 x13_1).f2), .int .i64 ((rd_T111 l0 x13_1).f3), .int .i64 ((rd_T111 l0 x13_1).f4)] 111 (0, 0))) := ⟨(by rw [hw]; exact (by (with_reducible repeat (first | refine blk_drewN ?_ _ | refine blk_drew ?_ | refine blk_alloc ?_ _)); refine blk_put (cs := #[.int .i64 ((rd_T111 l0 x13_1).f0), .int .i64 ((rd_T111 l0 x13_1).f1), .int .i64 ((rd_T111 l0 x13_1).f2), .int .i64 ((rd_T111 l0 x13_1).f3), .int .i64 0]) ?_ 4 _ rfl; (with_reducible repeat (first | refine blk_drewN ?_ _ | refine blk_drew ?_ | refine blk_alloc ?_ _)); refine blk_put (cs := #[.int .i64 ((rd_T111 l0 x13_1).f0), .int .i64 ((rd_T111 l0 x13_1).f1), .int .i64 ((rd_T111 l0 x13_1).f2), .int .i64 0, .int .i64 0]) ?_ 3 _ rfl; (with_reducible repeat (first | refine blk_drewN ?_ _ | refine blk_drew ?_ | refine blk_alloc ?_ _)); refine blk_put (cs := #[.int .i64 ((rd_T111 l0 x13_1).f0), .int .i64 ((rd_T111 l0 x13_1).f1), .int .i64 0, .int .i64 0, .int .i64 0]) ?_ 2 _ rfl; (with_reducible repeat (first | refine blk_drewN ?_ _ | refine blk_drew ?_ | refine blk_alloc ?_ _)); refine blk_put (cs := #[.int .i64 ((rd_T111 l0 x13_1).f0), .int .i64 0, .int .i64 0, .int .i64 0, .int .i64 0]) ?_ 1 _ rfl; (with_reducible repeat (first | refine blk_drewN ?_ _ | refine blk_drew ?_ | refine blk_alloc ?_ _)); refine blk_put (cs := #[.int .i64 0, .int .i64 0, .int .i64 0, .int .i64 0, .int .i64 0]) ?_ 0 _ rfl; (with_reducible repeat (first | refine blk_drewN ?_ _ | refine blk_drew ?_ | refine blk_alloc ?_ _)); exact BK296.out))⟩; have n2_ : Aside0 (Below w.heap.size w w24) := ⟨(by rw [hw]; exact (by repeat (first | (with_reducible first | exact HB.out | apply below_alloc | apply pw_below_drewN | apply below_drew1 | refine below_set ?_ GE296.out) | exact HB.out)))⟩; clear hw; clear HO_1; clear BK296; clear HB; have HO_1 := n0_; have BK296 := n1_; have HB := n2_; clear n0_ n1_ n2_; have hcz25_0 : w24.cell? ⟨gb296, 0, none⟩ = some (.int .i64 ((rd_T111 l0 x13_1).f0)) := (blk_cell BK296.out 0).trans rfl; have hcz25_1 : w24.cell? ⟨gb296, 1, none⟩ = some (.int .i64 ((rd_T111 l0 x13_1).f1)) := (blk_cell BK296.out 1).trans rfl; have hcz25_2 : w24.cell? ⟨gb296, 2, none⟩ = some (.int .i64 ((rd_T111 l0 x13_1).f2)) := (blk_cell BK296.out 2).trans rfl; have hcz25_3 : w24.cell? ⟨gb296, 3, none⟩ = some (.int .i64 ((rd_T111 l0 x13_1).f3)) := (blk_cell BK296.out 3).trans rfl; have hcz25_4 : w24.cell? ⟨gb296, 4, none⟩ = some (.int .i64 ((rd_T111 l0 x13_1).f4)) := (blk_cell BK296.out 4).trans rfl; have hfz25_0 := blk_frozen BK296.out 0; have hfz25_1 := blk_frozen BK296.out 1; have hfz25_2 := blk_frozen BK296.out 2; have hfz25_3 := blk_frozen BK296.out 3; have hfz25_4 := blk_frozen BK296.out 4; obtain ⟨Ao26, co26, eo26⟩ := Kd.R_slice HO_1.out; subst eo26; have p297 : 0 ≤ (((rd_T111 l0 x13_1).f4) : Int) := of_decide_eq_true (by first | (with_reducible assumption) | assumption); have q297 : ((rd_T111 l0 x13_1).f4) < (x1_1.length : Int) := of_decide_eq_true (by first | (with_reducible assumption) | assumption); obtain ⟨ad297, e297, hx297_0⟩ := Kd.at_int (Kd.R_reads' HO_1.out).2.2 ((rd_T111 l0 x13_1).f4) p297 q297; cases e297; replace p297 := eq_true p297; replace q297 := eq_true q297; have p298 : 0 ≤ (((rd_T111 l0 x13_1).f2) : Int) := of_decide_eq_true (by first | (with_reducible assumption) | assumption); have q298 : ((rd_T111 l0 x13_1).f2) < (x1_1.length : Int) := of_decide_eq_true (by first | (with_reducible assumption) | assumption); obtain ⟨ad298, e298, hx298_0⟩ := Kd.at_int (Kd.R_reads' HO_1.out).2.2 ((rd_T111 l0 x13_1).f2) p298 q298; obtain rfl : ad297 = ad298 := (by injection e298); replace p298 := eq_true p298; replace q298 := eq_true q298; have p299 : 0 ≤ (((rd_T111 l0 x13_1).f3) : Int) := of_decide_eq_true (by first | (with_reducible assumption) | assumption); have q299 : ((rd_T111 l0 x13_1).f3) < (x1_1.length : Int) := of_decide_eq_true (by first | (with_reducible assumption) | assumption); obtain ⟨ad299, e299, hx299_0⟩ := Kd.at_int (Kd.R_reads' HO_1.out).2.2 ((rd_T111 l0 x13_1).f3) p299 q299; obtain rfl : ad297 = ad299 := (by injection e299); replace p299 := eq_true p299; replace q299 := eq_true q299) | (go_at_call 105; (with_reducible refine (codemasonref_Op.calls k1 ((rd_T111 l0 x13_1).f0) (rd x1_1 ((rd_T111 l0 x13_1).f2)) (rd x1_1 ((rd_T111 l0 x13_1).f3)) t300 _ A18.out).mono ?_); rintro e w' ⟨rfl, ⟨nd, rfl⟩⟩; (try first | exact ⟨rfl, _, World.drewN_drewN _ _ _⟩ | exact ⟨rfl, _, Eq.trans (World.drewN_drewN _ _ _) (congrArg (World.drewN _) (Nat.add_assoc _ _ _))⟩); have p21 : 0 ≤ (((rd_T111 l0 x13_1).f1) : Int) := of_decide_eq_true (by first | (with_reducible assumption) | assumption); have q21 : (((rd_T111 l0 x13_1).f1) : Int) < ((x1_1.length : Int) : Int) := of_decide_eq_true (by first | (with_reducible assumption) | assumption); obtain ⟨go21, co21, eo21, gb21, gl21, cl21, HG21⟩ := Kd.R_form HO_1.out (by omega); (first | cases eo21 | (injection eo21 with ea_ en_ ec_; (first | subst ea_ | (injection ea_ with ea_; subst ea_)); subst ec_; clear en_)); have GB21 := Aside0.mk gb21; have GG21 := Aside0.mk HG21; clear gb21 gl21 HG21; (first | simp only [add_plain] at hx297_0 | skip); (first | simp only [add_plain] at hx298_0 | skip); (first | simp only [add_plain] at hx299_0 | skip); obtain ⟨hx21_0, hf21_0⟩ := Kd.R_celln 0 HO_1.out (((rd_T111 l0 x13_1).f1) : Int) p21 q21; replace p21 := eq_true p21; replace q21 := eq_true q21; obtain ⟨hy27_, hz27_⟩ := Kd.R_celln 0 HO_1.out (((rd_T111 l0 x13_1).f1) : Int) (of_decide_eq_true (by first | (with_reducible assumption) | assumption)) (of_decide_eq_true (by first | (with_reducible assumption) | assumption)); have HP27 := Kd.R_putg HO_1.out (((rd_T111 l0 x13_1).f1) : Int) t300) | ((with_reducible refine gate_store (t := 3) (p := 47) rfl ?_); (try (rw [drewN_self w24]; generalize hq_ : World.drewN w24 _ = w24; have n0_ := Aside0.mk (Kd.R_at hq_ HO_1.out); have n1_ := Aside0.mk (blk_at hq_ BK296.out); have n2_ := Aside0.mk (below_at hq_ HB.out); clear hq_ HO_1 BK296 HB; have HO_1 := n0_; have BK296 := n1_; have HB := n2_; clear n0_ n1_ n2_; (try (obtain ⟨hy27_, hz27_⟩ := Kd.R_celln 0 HO_1.out (((rd_T111 l0 x13_1).f1) : Int) (of_decide_eq_true (by first | (with_reducible assumption) | assumption)) (of_decide_eq_true (by first | (with_reducible assumption) | assumption)))); (try (have HP27 := Kd.R_putg HO_1.out (((rd_T111 l0 x13_1).f1) : Int) t300)))); refine store_event (t := 3) (p := 47) (v := ?vo_w28) (w1 := (w24.setCell ⟨go21, (((rd_T111 l0 x13_1).f1) : Int).toNat, none⟩ (.int .i64 t300))) ?hg ?ho ?hn ?hr ?_; (case ho => rfl); (case hg => rfl); (case hn => rfl); (case hr => first | (go_simp; done) | (go_simp; rfl)); intro w28 hw; have hg : w24.grownBy w28 (some go21) := (by rw [hw]; exact HP27.2); have hp_ : Kd.R (Kd.int .i64) 3 w28 w.heap.size (fun _ => True) (.slice (some ⟨go21, 0, none⟩) x1_1.length co26) y301 := (by rw [hw, Ny301.out]; exact HP27.1); clear HP27; have n0_ := Aside0.mk (hp_); have n1_ := Aside0.mk (blk_grown (g := gb296) (o := .cells #[.int .i64 ((rd_T111 l0 x13_1).f0), .int .i64 ((rd_T111 l0 x13_1).f1), .int .i64 ((rd_T111 l0 x13_1).f2), .int .i64 ((rd_T111 l0 x13_1).f3), .int .i64 ((rd_T111 l0 x13_1).f4)] 111 (0, 0)) (by (with_reducible repeat (first | refine blk_drewN ?_ _ | refine blk_drew ?_ | refine blk_alloc ?_ _)); exact BK296.out) hg (Kd.R_ne HO_1.out BK296.out (by decide))); have n2_ := Aside0.mk ((by rw [hw]; exact below_set (HB.out) GB21.out : Below w.heap.size w w28)); clear HO_1; clear BK296; clear HB; have HO_1 := n0_; have BK296 := n1_; have HB := n2_; clear n0_ n1_ n2_; clear hg hw hp_)))
                                  go_roundg k1
                                  case measure => have := HK1.out; omega
                                  case rel => exact ⟨(y301), (wrap64 (x13_1 + 1)), (by first | rfl | (simp; done) | (simp [*]; done)), H', ⟨by have := HK1.out; omega⟩, ⟨by (with_reducible repeat (first | apply Kd.R_alloc | apply Kd.R_drewN | apply Kd.R_drew)); exact HO_1.out⟩, ⟨by repeat (first | (with_reducible first | exact HB.out | apply below_alloc | apply pw_below_drewN | apply below_drew1 | refine below_set ?_ GE296.out) | exact HB.out)⟩⟩
                                · rw [if_neg c20] at H
                                  exact absurd H (by simp)
                              · rw [if_neg c19] at H
                                exact absurd H (by simp)
                            · rw [if_neg c17] at H
                              exact absurd H (by simp)
                          · rw [if_neg c16] at H
                            exact absurd H (by simp)
                        · rw [if_neg c15] at H
                          exact absurd H (by simp)
                      · rw [if_neg c14] at H
                        exact absurd H (by simp)
                    · rw [if_neg c13] at H
                      have c13b0 : decide (3 ≤ ((rd_T111 l0 x13_1).f0)) = false := decide_eq_false c13
                      clear c13
                      by_cases c29 : 0 ≤ ((rd_T111 l0 x13_1).f1)
                      · rw [if_pos c29] at H
                        have c29b0 : decide (0 ≤ ((rd_T111 l0 x13_1).f1)) = true := decide_eq_true c29
                        clear c29
                        by_cases c30 : ((rd_T111 l0 x13_1).f1) < (x1_1.length : Int)
                        · rw [if_pos c30] at H
                          have c30b0 : decide (((rd_T111 l0 x13_1).f1) < (x1_1.length : Int)) = true := decide_eq_true c30
                          clear c30
                          obtain ⟨y302, hy302⟩ : ∃ y_ : List Int, y_ = (x1_1.set (((rd_T111 l0 x13_1).f1) : Int).toNat (rd x1_1 ((rd_T111 l0 x13_1).f4))) := ⟨_, rfl⟩
                          replace H : (codemasonref_Doing.l0 k1 y302 l0 (l0.length : Int) (wrap64 (x13_1 + 1))) = some r := by first | (rw [hy302]; with_reducible exact H) | (have H2_ := (Option.bind_some _ _).symm.trans H; rw [hy302]; with_reducible exact H2_) | (have H2_ := (Option.bind_some _ _).symm.trans H; with_reducible exact H2_) | with_reducible exact H | (rw [hy302]; exact H) | exact H
                          have Ny302 := Aside0.mk hy302
                          clear hy302
                          have H' := Aside0.mk H
                          clear H
                          have p295 : 0 ≤ (x13_1 : Int) := of_decide_eq_true (by first | (with_reducible assumption) | assumption)
                          have q295 : x13_1 < (l0.length : Int) := of_decide_eq_true (by first | (with_reducible assumption) | assumption)
                          obtain ⟨ad295, e295, hx295_0, hx295_1, hx295_2, hx295_3, hx295_4⟩ := at_T111 HR0.out x13_1 p295 q295
                          cases e295
                          replace hx295_0 := (HB.out.cell (World.block_lt_of_cell? w _ hx295_0)).trans hx295_0
                          replace hx295_1 := (HB.out.cell (World.block_lt_of_cell? w _ hx295_1)).trans hx295_1
                          replace hx295_2 := (HB.out.cell (World.block_lt_of_cell? w _ hx295_2)).trans hx295_2
                          replace hx295_3 := (HB.out.cell (World.block_lt_of_cell? w _ hx295_3)).trans hx295_3
                          replace hx295_4 := (HB.out.cell (World.block_lt_of_cell? w _ hx295_4)).trans hx295_4
                          replace p295 := eq_true p295
                          replace q295 := eq_true q295
                          go_wp2_with (first | ((with_reducible refine gate_dst (N := 6) rfl ?_); refine box_event ?hg (N := 6) ?hd (cs := #[.int .i64 0, .int .i64 0, .int .i64 0, .int .i64 0, .int .i64 0]) (t := 111) ?hr ?_; (case hd => rfl); (case hg => rfl); (case hr => first | (go_simp; done) | (go_simp; rfl)); intro gb296 hg w32 hbox hb; have n0_ := Aside0.mk (Kd.R_below (by (with_reducible repeat (first | apply Kd.R_alloc | apply Kd.R_drewN | apply Kd.R_drew)); exact HO_1.out) hb); have n1_ := Aside0.mk (below_step (by repeat (first | (with_reducible first | exact HB.out | apply below_alloc | apply pw_below_drewN | apply below_drew1) | exact HB.out)) hb); have n2_ := Aside0.mk (hbox); have n3_ := Aside0.mk ((by rw [hg]; exact (below_size (by repeat (first | (with_reducible first | exact HB.out | apply below_alloc | apply pw_below_drewN | apply below_drew1) | exact HB.out))) : w.heap.size ≤ gb296)); have n4_ := Aside0.mk ((by rw [hg]; exact (below_size (by repeat (first | (with_reducible first | exact HB.out | apply below_alloc | apply pw_below_drewN | apply below_drew1) | exact HB.out))) : w.heap.size ≤ gb296)); clear HO_1; clear HB; have HO_1 := n0_; have HB := n1_; have BK296 := n2_; have GW296 := n3_; have GE296 := n4_; clear n0_ n1_ n2_ n3_ n4_; clear hb hbox hg; have hcz33_0 : w32.cell? ⟨gb296, 0, none⟩ = some (.int .i64 0) := (blk_cell BK296.out 0).trans rfl; have hcz33_1 : w32.cell? ⟨gb296, 1, none⟩ = some (.int .i64 0) := (blk_cell BK296.out 1).trans rfl; have hcz33_2 : w32.cell? ⟨gb296, 2, none⟩ = some (.int .i64 0) := (blk_cell BK296.out 2).trans rfl; have hcz33_3 : w32.cell? ⟨gb296, 3, none⟩ = some (.int .i64 0) := (blk_cell BK296.out 3).trans rfl; have hcz33_4 : w32.cell? ⟨gb296, 4, none⟩ = some (.int .i64 0) := (blk_cell BK296.out 4).trans rfl; have hfz33_0 := blk_frozen BK296.out 0; have hfz33_1 := blk_frozen BK296.out 1; have hfz33_2 := blk_frozen BK296.out 2; have hfz33_3 := blk_frozen BK296.out 3; have hfz33_4 := blk_frozen BK296.out 4) | ((with_reducible refine gate_store (t := 111) (p := 6) rfl ?_); (try (rw [drewN_self w32]; generalize hq_ : World.drewN w32 _ = w32; have n0_ := Aside0.mk (Kd.R_at hq_ HO_1.out); have n1_ := Aside0.mk (blk_at hq_ BK296.out); have n2_ := Aside0.mk (below_at hq_ HB.out); clear hq_ HO_1 BK296 HB; have HO_1 := n0_; have BK296 := n1_; have HB := n2_; clear n0_ n1_ n2_)); refine store_event (t := 111) (p := 6) (v := ?vo_w34) (w1 := (((((w32.setCell ⟨gb296, 0, none⟩ (.int .i64 ((rd_T111 l0 x13_1).f0))).setCell ⟨gb296, 1, none⟩ (.int .i64 ((rd_T111 l0 x13_1).f1))).setCell ⟨gb296, 2, none⟩ (.int .i64 ((rd_T111 l0 x13_1).f2))).setCell ⟨gb296, 3, none⟩ (.int .i64 ((rd_T111 l0 x13_1).f3))).setCell ⟨gb296, 4, none⟩ (.int .i64 ((rd_T111 l0 x13_1).f4)))) ?hg ?ho ?hn ?hr ?_; (case ho => rfl); (case hg => rfl); (case hn => rfl); (case hr => first | (go_simp; done) | (go_simp; rfl)); intro w34 hw; have n0_ : Aside0 (Kd.R (Kd.int .i64) 3 w34 w.heap.size (fun _ => True) v293 x1_1) := ⟨(by rw [hw]; exact (by (with_reducible repeat (first | apply Kd.R_alloc | apply Kd.R_drewN | apply Kd.R_drew)); exact Kd.R_mono (Kd.R_far (p := ⟨gb296, 4, none⟩) (Kd.R_far (p := ⟨gb296, 3, none⟩) (Kd.R_far (p := ⟨gb296, 2, none⟩) (Kd.R_far (p := ⟨gb296, 1, none⟩) (Kd.R_far (p := ⟨gb296, 0, none⟩) (Kd.R_types HO_1.out BK296.out (by decide)) (fun _ hk => hk.2) (.int .i64 ((rd_T111 l0 x13_1).f0))) (fun _ hk => hk.2) (.int .i64 ((rd_T111 l0 x13_1).f1))) (fun _ hk => hk.2) (.int .i64 ((rd_T111 l0 x13_1).f2))) (fun _ hk => hk.2) (.int .i64 ((rd_T111 l0 x13_1).f3))) (fun _ hk => hk.2) (.int .i64 ((rd_T111 l0 x13_1).f4))) (fun _ hk => trivial)))⟩; have n1_ : Aside0 (w34.heap[gb296]? = some (.cells #[.int .i64 ((rd_T111 l0 x13_1).f0), .int .i64 ((rd_T111 l0 x13_1).f1), .int .i64 ((rd_T111 l0 x13_1).f2), .int .i64 ((rd_T111 l0 x13_1).f3), .int .i64 ((rd_T111 l0 x13_1).f4)] 111 (0, 0))) := ⟨(by rw [hw]; exact (by (with_reducible repeat (first | refine blk_drewN ?_ _ | refine blk_drew ?_ | refine blk_alloc ?_ _)); refine blk_put (cs := #[.int .i64 ((rd_T111 l0 x13_1).f0), .int .i64 ((rd_T111 l0 x13_1).f1), .int .i64 ((rd_T111 l0 x13_1).f2), .int .i64 ((rd_T111 l0 x13_1).f3), .int .i64 0]) ?_ 4 _ rfl; (with_reducible repeat (first | refine blk_drewN ?_ _ | refine blk_drew ?_ | refine blk_alloc ?_ _)); refine blk_put (cs := #[.int .i64 ((rd_T111 l0 x13_1).f0), .int .i64 ((rd_T111 l0 x13_1).f1), .int .i64 ((rd_T111 l0 x13_1).f2), .int .i64 0, .int .i64 0]) ?_ 3 _ rfl; (with_reducible repeat (first | refine blk_drewN ?_ _ | refine blk_drew ?_ | refine blk_alloc ?_ _)); refine blk_put (cs := #[.int .i64 ((rd_T111 l0 x13_1).f0), .int .i64 ((rd_T111 l0 x13_1).f1), .int .i64 0, .int .i64 0, .int .i64 0]) ?_ 2 _ rfl; (with_reducible repeat (first | refine blk_drewN ?_ _ | refine blk_drew ?_ | refine blk_alloc ?_ _)); refine blk_put (cs := #[.int .i64 ((rd_T111 l0 x13_1).f0), .int .i64 0, .int .i64 0, .int .i64 0, .int .i64 0]) ?_ 1 _ rfl; (with_reducible repeat (first | refine blk_drewN ?_ _ | refine blk_drew ?_ | refine blk_alloc ?_ _)); refine blk_put (cs := #[.int .i64 0, .int .i64 0, .int .i64 0, .int .i64 0, .int .i64 0]) ?_ 0 _ rfl; (with_reducible repeat (first | refine blk_drewN ?_ _ | refine blk_drew ?_ | refine blk_alloc ?_ _)); exact BK296.out))⟩; have n2_ : Aside0 (Below w.heap.size w w34) := ⟨(by rw [hw]; exact (by repeat (first | (with_reducible first | exact HB.out | apply below_alloc | apply pw_below_drewN | apply below_drew1 | refine below_set ?_ GE296.out) | exact HB.out)))⟩; clear hw; clear HO_1; clear BK296; clear HB; have HO_1 := n0_; have BK296 := n1_; have HB := n2_; clear n0_ n1_ n2_; have hcz35_0 : w34.cell? ⟨gb296, 0, none⟩ = some (.int .i64 ((rd_T111 l0 x13_1).f0)) := (blk_cell BK296.out 0).trans rfl; have hcz35_1 : w34.cell? ⟨gb296, 1, none⟩ = some (.int .i64 ((rd_T111 l0 x13_1).f1)) := (blk_cell BK296.out 1).trans rfl; have hcz35_2 : w34.cell? ⟨gb296, 2, none⟩ = some (.int .i64 ((rd_T111 l0 x13_1).f2)) := (blk_cell BK296.out 2).trans rfl; have hcz35_3 : w34.cell? ⟨gb296, 3, none⟩ = some (.int .i64 ((rd_T111 l0 x13_1).f3)) := (blk_cell BK296.out 3).trans rfl; have hcz35_4 : w34.cell? ⟨gb296, 4, none⟩ = some (.int .i64 ((rd_T111 l0 x13_1).f4)) := (blk_cell BK296.out 4).trans rfl; have hfz35_0 := blk_frozen BK296.out 0; have hfz35_1 := blk_frozen BK296.out 1; have hfz35_2 := blk_frozen BK296.out 2; have hfz35_3 := blk_frozen BK296.out 3; have hfz35_4 := blk_frozen BK296.out 4; obtain ⟨Ao36, co36, eo36⟩ := Kd.R_slice HO_1.out; subst eo36; have p297 : 0 ≤ (((rd_T111 l0 x13_1).f4) : Int) := of_decide_eq_true (by first | (with_reducible assumption) | assumption); have q297 : ((rd_T111 l0 x13_1).f4) < (x1_1.length : Int) := of_decide_eq_true (by first | (with_reducible assumption) | assumption); obtain ⟨ad297, e297, hx297_0⟩ := Kd.at_int (Kd.R_reads' HO_1.out).2.2 ((rd_T111 l0 x13_1).f4) p297 q297; cases e297; replace p297 := eq_true p297; replace q297 := eq_true q297; have p31 : 0 ≤ (((rd_T111 l0 x13_1).f1) : Int) := of_decide_eq_true (by first | (with_reducible assumption) | assumption); have q31 : (((rd_T111 l0 x13_1).f1) : Int) < ((x1_1.length : Int) : Int) := of_decide_eq_true (by first | (with_reducible assumption) | assumption); obtain ⟨go31, co31, eo31, gb31, gl31, cl31, HG31⟩ := Kd.R_form HO_1.out (by omega); (first | cases eo31 | (injection eo31 with ea_ en_ ec_; (first | subst ea_ | (injection ea_ with ea_; subst ea_)); subst ec_; clear en_)); have GB31 := Aside0.mk gb31; have GG31 := Aside0.mk HG31; clear gb31 gl31 HG31; (first | simp only [add_plain] at hx297_0 | skip); obtain ⟨hx31_0, hf31_0⟩ := Kd.R_celln 0 HO_1.out (((rd_T111 l0 x13_1).f1) : Int) p31 q31; replace p31 := eq_true p31; replace q31 := eq_true q31; obtain ⟨hy37_, hz37_⟩ := Kd.R_celln 0 HO_1.out (((rd_T111 l0 x13_1).f1) : Int) (of_decide_eq_true (by first | (with_reducible assumption) | assumption)) (of_decide_eq_true (by first | (with_reducible assumption) | assumption)); have HP37 := Kd.R_putg HO_1.out (((rd_T111 l0 x13_1).f1) : Int) (rd x1_1 ((rd_T111 l0 x13_1).f4))) | ((with_reducible refine gate_store (t := 3) (p := 47) rfl ?_); (try (rw [drewN_self w34]; generalize hq_ : World.drewN w34 _ = w34; have n0_ := Aside0.mk (Kd.R_at hq_ HO_1.out); have n1_ := Aside0.mk (blk_at hq_ BK296.out); have n2_ := Aside0.mk (below_at hq_ HB.out); clear hq_ HO_1 BK296 HB; have HO_1 := n0_; have BK296 := n1_; have HB := n2_; clear n0_ n1_ n2_; (try (obtain ⟨hy37_, hz37_⟩ := Kd.R_celln 0 HO_1.out (((rd_T111 l0 x13_1).f1) : Int) (of_decide_eq_true (by first | (with_reducible assumption) | assumption)) (of_decide_eq_true (by first | (with_reducible assumption) | assumption)))); (try (have HP37 := Kd.R_putg HO_1.out (((rd_T111 l0 x13_1).f1) : Int) (rd x1_1 ((rd_T111 l0 x13_1).f4)))))); refine store_event (t := 3) (p := 47) (v := ?vo_w38) (w1 := (w34.setCell ⟨go31, (((rd_T111 l0 x13_1).f1) : Int).toNat, none⟩ (.int .i64 (rd x1_1 ((rd_T111 l0 x13_1).f4))))) ?hg ?ho ?hn ?hr ?_; (case ho => rfl); (case hg => rfl); (case hn => rfl); (case hr => first | (go_simp; done) | (go_simp; rfl)); intro w38 hw; have hg : w34.grownBy w38 (some go31) := (by rw [hw]; exact HP37.2); have hp_ : Kd.R (Kd.int .i64) 3 w38 w.heap.size (fun _ => True) (.slice (some ⟨go31, 0, none⟩) x1_1.length co36) y302 := (by rw [hw, Ny302.out]; exact HP37.1); clear HP37; have n0_ := Aside0.mk (hp_); have n1_ := Aside0.mk (blk_grown (g := gb296) (o := .cells #[.int .i64 ((rd_T111 l0 x13_1).f0), .int .i64 ((rd_T111 l0 x13_1).f1), .int .i64 ((rd_T111 l0 x13_1).f2), .int .i64 ((rd_T111 l0 x13_1).f3), .int .i64 ((rd_T111 l0 x13_1).f4)] 111 (0, 0)) (by (with_reducible repeat (first | refine blk_drewN ?_ _ | refine blk_drew ?_ | refine blk_alloc ?_ _)); exact BK296.out) hg (Kd.R_ne HO_1.out BK296.out (by decide))); have n2_ := Aside0.mk ((by rw [hw]; exact below_set (HB.out) GB31.out : Below w.heap.size w w38)); clear HO_1; clear BK296; clear HB; have HO_1 := n0_; have BK296 := n1_; have HB := n2_; clear n0_ n1_ n2_; clear hg hw hp_))
                          repeat (go_quiet (first | ((with_reducible refine gate_dst (N := 6) rfl ?_); refine box_event ?hg (N := 6) ?hd (cs := #[.int .i64 0, .int .i64 0, .int .i64 0, .int .i64 0, .int .i64 0]) (t := 111) ?hr ?_; (case hd => rfl); (case hg => rfl); (case hr => first | (go_simp; done) | (go_simp; rfl)); intro gb296 hg w32 hbox hb; have n0_ := Aside0.mk (Kd.R_below (by (with_reducible repeat (first | apply Kd.R_alloc | apply Kd.R_drewN | apply Kd.R_drew)); exact HO_1.out) hb); have n1_ := Aside0.mk (below_step (by repeat (first | (with_reducible first | exact HB.out | apply below_alloc | apply pw_below_drewN | apply below_drew1) | exact HB.out)) hb); have n2_ := Aside0.mk (hbox); have n3_ := Aside0.mk ((by rw [hg]; exact (below_size (by repeat (first | (with_reducible first | exact HB.out | apply below_alloc | apply pw_below_drewN | apply below_drew1) | exact HB.out))) : w.heap.size ≤ gb296)); have n4_ := Aside0.mk ((by rw [hg]; exact (below_size (by repeat (first | (with_reducible first | exact HB.out | apply below_alloc | apply pw_below_drewN | apply below_drew1) | exact HB.out))) : w.heap.size ≤ gb296)); clear HO_1; clear HB; have HO_1 := n0_; have HB := n1_; have BK296 := n2_; have GW296 := n3_; have GE296 := n4_; clear n0_ n1_ n2_ n3_ n4_; clear hb hbox hg; have hcz33_0 : w32.cell? ⟨gb296, 0, none⟩ = some (.int .i64 0) := (blk_cell BK296.out 0).trans rfl; have hcz33_1 : w32.cell? ⟨gb296, 1, none⟩ = some (.int .i64 0) := (blk_cell BK296.out 1).trans rfl; have hcz33_2 : w32.cell? ⟨gb296, 2, none⟩ = some (.int .i64 0) := (blk_cell BK296.out 2).trans rfl; have hcz33_3 : w32.cell? ⟨gb296, 3, none⟩ = some (.int .i64 0) := (blk_cell BK296.out 3).trans rfl; have hcz33_4 : w32.cell? ⟨gb296, 4, none⟩ = some (.int .i64 0) := (blk_cell BK296.out 4).trans rfl; have hfz33_0 := blk_frozen BK296.out 0; have hfz33_1 := blk_frozen BK296.out 1; have hfz33_2 := blk_frozen BK296.out 2; have hfz33_3 := blk_frozen BK296.out 3; have hfz33_4 := blk_frozen BK296.out 4) | ((with_reducible refine gate_store (t := 111) (p := 6) rfl ?_); (try (rw [drewN_self w32]; generalize hq_ : World.drewN w32 _ = w32; have n0_ := Aside0.mk (Kd.R_at hq_ HO_1.out); have n1_ := Aside0.mk (blk_at hq_ BK296.out); have n2_ := Aside0.mk (below_at hq_ HB.out); clear hq_ HO_1 BK296 HB; have HO_1 := n0_; have BK296 := n1_; have HB := n2_; clear n0_ n1_ n2_)); refine store_event (t := 111) (p := 6) (v := ?vo_w34) (w1 := (((((w32.setCell ⟨gb296, 0, none⟩ (.int .i64 ((rd_T111 l0 x13_1).f0))).setCell ⟨gb296, 1, none⟩ (.int .i64 ((rd_T111 l0 x13_1).f1))).setCell ⟨gb296, 2, none⟩ (.int .i64 ((rd_T111 l0 x13_1).f2))).setCell ⟨gb296, 3, none⟩ (.int .i64 ((rd_T111 l0 x13_1).f3))).setCell ⟨gb296, 4, none⟩ (.int .i64 ((rd_T111 l0 x13_1).f4)))) ?hg ?ho ?hn ?hr ?_; (case ho => rfl); (case hg => rfl); (case hn => rfl); (case hr => first | (go_simp; done) | (go_simp; rfl)); intro w34 hw; have n0_ : Aside0 (Kd.R (Kd.int .i64) 3 w34 w.heap.size (fun _ => True) v293 x1_1) := ⟨(by rw [hw]; exact (by (with_reducible repeat (first | apply Kd.R_alloc | apply Kd.R_drewN | apply Kd.R_drew)); exact Kd.R_mono (Kd.R_far (p := ⟨gb296, 4, none⟩) (Kd.R_far (p := ⟨gb296, 3, none⟩) (Kd.R_far (p := ⟨gb296, 2, none⟩) (Kd.R_far (p := ⟨gb296, 1, none⟩) (Kd.R_far (p := ⟨gb296, 0, none⟩) (Kd.R_types HO_1.out BK296.out (by decide)) (fun _ hk => hk.2) (.int .i64 ((rd_T111 l0 x13_1).f0))) (fun _ hk => hk.2) (.int .i64 ((rd_T111 l0 x13_1).f1))) (fun _ hk => hk.2) (.int .i64 ((rd_T111 l0 x13_1).f2))) (fun _ hk => hk.2) (.int .i64 ((rd_T111 l0 x13_1).f3))) (fun _ hk => hk.2) (.int .i64 ((rd_T111 l0 x13_1).f4))) (fun _ hk => trivial)))⟩; have n1_ : Aside0 (w34.heap[gb296]? = some (.cells #[.int .i64 ((rd_T111 l0 x13_1).f0), .int .i64 ((rd_T111 l0 x13_1).f1), .int .i64 ((rd_T111 l0 x13_1).f2), .int .i64 ((rd_T111 l0 x13_1).f3), .int .i64 ((rd_T111 l0 x13_1).f4)] 111 (0, 0))) := ⟨(by rw [hw]; exact (by (with_reducible repeat (first | refine blk_drewN ?_ _ | refine blk_drew ?_ | refine blk_alloc ?_ _)); refine blk_put (cs := #[.int .i64 ((rd_T111 l0 x13_1).f0), .int .i64 ((rd_T111 l0 x13_1).f1), .int .i64 ((rd_T111 l0 x13_1).f2), .int .i64 ((rd_T111 l0 x13_1).f3), .int .i64 0]) ?_ 4 _ rfl; (with_reducible repeat (first | refine blk_drewN ?_ _ | refine blk_drew ?_ | refine blk_alloc ?_ _)); refine blk_put (cs := #[.int .i64 ((rd_T111 l0 x13_1).f0), .int .i64 ((rd_T111 l0 x13_1).f1), .int .i64 ((rd_T111 l0 x13_1).f2), .int .i64 0, .int .i64 0]) ?_ 3 _ rfl; (with_reducible repeat (first | refine blk_drewN ?_ _ | refine blk_drew ?_ | refine blk_alloc ?_ _)); refine blk_put (cs := #[.int .i64 ((rd_T111 l0 x13_1).f0), .int .i64 ((rd_T111 l0 x13_1).f1), .int .i64 0, .int .i64 0, .int .i64 0]) ?_ 2 _ rfl; (with_reducible repeat (first | refine blk_drewN ?_ _ | refine blk_drew ?_ | refine blk_alloc ?_ _)); refine blk_put (cs := #[.int .i64 ((rd_T111 l0 x13_1).f0), .int .i64 0, .int .i64 0, .int .i64 0, .int .i64 0]) ?_ 1 _ rfl; (with_reducible repeat (first | refine blk_drewN ?_ _ | refine blk_drew ?_ | refine blk_alloc ?_ _)); refine blk_put (cs := #[.int .i64 0, .int .i64 0, .int .i64 0, .int .i64 0, .int .i64 0]) ?_ 0 _ rfl; (with_reducible repeat (first | refine blk_drewN ?_ _ | refine blk_drew ?_ | refine blk_alloc ?_ _)); exact BK296.out))⟩; have n2_ : Aside0 (Below w.heap.size w w34) := ⟨(by rw [hw]; exact (by repeat (first | (with_reducible first | exact HB.out | apply below_alloc | apply pw_below_drewN | apply below_drew1 | refine below_set ?_ GE296.out) | exact HB.out)))⟩; clear hw; clear HO_1; clear BK296; clear HB; have HO_1 := n0_; have BK296 := n1_; have HB := n2_; clear n0_ n1_ n2_; have hcz35_0 : w34.cell? ⟨gb296, 0, none⟩ = some (.int .i64 ((rd_T111 l0 x13_1).f0)) := (blk_cell BK296.out 0).trans rfl; have hcz35_1 : w34.cell? ⟨gb296, 1, none⟩ = some (.int .i64 ((rd_T111 l0 x13_1).f1)) := (blk_cell BK296.out 1).trans rfl; have hcz35_2 : w34.cell? ⟨gb296, 2, none⟩ = some (.int .i64 ((rd_T111 l0 x13_1).f2)) := (blk_cell BK296.out 2).trans rfl; have hcz35_3 : w34.cell? ⟨gb296, 3, none⟩ = some (.int .i64 ((rd_T111 l0 x13_1).f3)) := (blk_cell BK296.out 3).trans rfl; have hcz35_4 : w34.cell? ⟨gb296, 4, none⟩ = some (.int .i64 ((rd_T111 l0 x13_1).f4)) := (blk_cell BK296.out 4).trans rfl; have hfz35_0 := blk_frozen BK296.out 0; have hfz35_1 := blk_frozen BK296.out 1; have hfz35_2 := blk_frozen BK296.out 2; have hfz35_3 := blk_frozen BK296.out 3; have hfz35_4 := blk_frozen BK296.out 4; obtain ⟨Ao36, co36, eo36⟩ := Kd.R_slice HO_1.out; subst eo36; have p297 : 0 ≤ (((rd_T111 l0 x13_1).f4) : Int) := of_decide_eq_true (by first | (with_reducible assumption) | assumption); have q297 : ((rd_T111 l0 x13_1).f4) < (x1_1.length : Int) := of_decide_eq_true (by first | (with_reducible assumption) | assumption); obtain ⟨ad297, e297, hx297_0⟩ := Kd.at_int (Kd.R_reads' HO_1.out).2.2 ((rd_T111 l0 x13_1).f4) p297 q297; cases e297; replace p297 := eq_true p297; replace q297 := eq_true q297; have p31 : 0 ≤ (((rd_T111 l0 x13_1).f1) : Int) := of_decide_eq_true (by first | (with_reducible assumption) | assumption); have q31 : (((rd_T111 l0 x13_1).f1) : Int) < ((x1_1.length : Int) : Int) := of_decide_eq_true (by first | (with_reducible assumption) | assumption); obtain ⟨go31, co31, eo31, gb31, gl31, cl31, HG31⟩ := Kd.R_form HO_1.out (by omega); (first | cases eo31 | (injection eo31 with ea_ en_ ec_; (first | subst ea_ | (injection ea_ with ea_; subst ea_)); subst ec_; clear en_)); have GB31 := Aside0.mk gb31; have GG31 := Aside0.mk HG31; clear gb31 gl31 HG31; (first | simp only [add_plain] at hx297_0 | skip); obtain ⟨hx31_0, hf31_0⟩ := Kd.R_celln 0 HO_1.out (((rd_T111 l0 x13_1).f1) : Int) p31 q31; replace p31 := eq_true p31; replace q31 := eq_true q31; obtain ⟨hy37_, hz37_⟩ := Kd.R_celln 0 HO_1.out (((rd_T111 l0 x13_1).f1) : Int) (of_decide_eq_true (by first | (with_reducible assumption) | assumption)) (of_decide_eq_true (by first | (with_reducible assumption) | assumption)); have HP37 := Kd.R_putg HO_1.out (((rd_T111 l0 x13_1).f1) : Int) (rd x1_1 ((rd_T111 l0 x13_1).f4))) | ((with_reducible refine gate_store (t := 3) (p := 47) rfl ?_); (try (rw [drewN_self w34]; generalize hq_ : World.drewN w34 _ = w34; have n0_ := Aside0.mk (Kd.R_at hq_ HO_1.out); have n1_ := Aside0.mk (blk_at hq_ BK296.out); have n2_ := Aside0.mk (below_at hq_ HB.out); clear hq_ HO_1 BK296 HB; have HO_1 := n0_; have BK296 := n1_; have HB := n2_; clear n0_ n1_ n2_; (try (obtain ⟨hy37_, hz37_⟩ := Kd.R_celln 0 HO_1.out (((rd_T111 l0 x13_1).f1) : Int) (of_decide_eq_true (by first | (with_reducible assumption) | assumption)) (of_decide_eq_true (by first | (with_reducible assumption) | assumption)))); (try (have HP37 := Kd.R_putg HO_1.out (((rd_T111 l0 x13_1).f1) : Int) (rd x1_1 ((rd_T111 l0 x13_1).f4)))))); refine store_event (t := 3) (p := 47) (v := ?vo_w38) (w1 := (w34.setCell ⟨go31, (((rd_T111 l0 x13_1).f1) : Int).toNat, none⟩ (.int .i64 (rd x1_1 ((rd_T111 l0 x13_1).f4))))) ?hg ?ho ?hn ?hr ?_; (case ho => rfl); (case hg => rfl); (case hn => rfl); (case hr => first | (go_simp; done) | (go_simp; rfl)); intro w38 hw; have hg : w34.grownBy w38 (some go31) := (by rw [hw]; exact HP37.2); have hp_ : Kd.R (Kd.int .i64) 3 w38 w.heap.size (fun _ => True) (.slice (some ⟨go31, 0, none⟩) x1_1.length co36) y302 := (by rw [hw, Ny302.out]; exact HP37.1); clear HP37; have n0_ := Aside0.mk (hp_); have n1_ := Aside0.mk (blk_grown (g := gb296) (o := .cells #[.int .i64 ((rd_T111 l0 x13_1).f0), .int .i64 ((rd_T111 l0 x13_1).f1), .int .i64 ((rd_T111 l0 x13_1).f2), .int .i64 ((rd_T111 l0 x13_1).f3), .int .i64 ((rd_T111 l0 x13_1).f4)] 111 (0, 0)) (by (with_reducible repeat (first | refine blk_drewN ?_ _ | refine blk_drew ?_ | refine blk_alloc ?_ _)); exact BK296.out) hg (Kd.R_ne HO_1.out BK296.out (by decide))); have n2_ := Aside0.mk ((by rw [hw]; exact below_set (HB.out) GB31.out : Below w.heap.size w w38)); clear HO_1; clear BK296; clear HB; have HO_1 := n0_; have BK296 := n1_; have HB := n2_; clear n0_ n1_ n2_; clear hg hw hp_)); try go_wp2_with (first | ((with_reducible refine gate_dst (N := 6) rfl ?_); refine box_event ?hg (N := 6) ?hd (cs := #[.int .i64 0, .int .i64 0, .int .i64 0, .int .i64 0, .int .i64 0]) (t := 111) ?hr ?_; (case hd => rfl); (case hg => rfl); (case hr => first | (go_simp; done) | (go_simp; rfl)); intro gb296 hg w32 hbox hb; have n0_ := Aside0.mk (Kd.R_below (by (with_reducible repeat (first | apply Kd.R_alloc | apply Kd.R_drewN | apply Kd.R_drew)); exact HO_1.out) hb); have n1_ := Aside0.mk (below_step (by repeat (first | (with_reducible first | exact HB.out | apply below_alloc | apply pw_below_drewN | apply below_drew1) | exact HB.out)) hb); have n2_ := Aside0.mk (hbox); have n3_ := Aside0.mk ((by rw [hg]; exact (below_size (by repeat (first | (with_reducible first | exact HB.out | apply below_alloc | apply pw_below_drewN | apply below_drew1) | exact HB.out))) : w.heap.size ≤ gb296)); have n4_ := Aside0.mk ((by rw [hg]; exact (below_size (by repeat (first | (with_reducible first | exact HB.out | apply below_alloc | apply pw_below_drewN | apply below_drew1) | exact HB.out))) : w.heap.size ≤ gb296)); clear HO_1; clear HB; have HO_1 := n0_; have HB := n1_; have BK296 := n2_; have GW296 := n3_; have GE296 := n4_; clear n0_ n1_ n2_ n3_ n4_; clear hb hbox hg; have hcz33_0 : w32.cell? ⟨gb296, 0, none⟩ = some (.int .i64 0) := (blk_cell BK296.out 0).trans rfl; have hcz33_1 : w32.cell? ⟨gb296, 1, none⟩ = some (.int .i64 0) := (blk_cell BK296.out 1).trans rfl; have hcz33_2 : w32.cell? ⟨gb296, 2, none⟩ = some (.int .i64 0) := (blk_cell BK296.out 2).trans rfl; have hcz33_3 : w32.cell? ⟨gb296, 3, none⟩ = some (.int .i64 0) := (blk_cell BK296.out 3).trans rfl; have hcz33_4 : w32.cell? ⟨gb296, 4, none⟩ = some (.int .i64 0) := (blk_cell BK296.out 4).trans rfl; have hfz33_0 := blk_frozen BK296.out 0; have hfz33_1 := blk_frozen BK296.out 1; have hfz33_2 := blk_frozen BK296.out 2; have hfz33_3 := blk_frozen BK296.out 3; have hfz33_4 := blk_frozen BK296.out 4) | ((with_reducible refine gate_store (t := 111) (p := 6) rfl ?_); (try (rw [drewN_self w32]; generalize hq_ : World.drewN w32 _ = w32; have n0_ := Aside0.mk (Kd.R_at hq_ HO_1.out); have n1_ := Aside0.mk (blk_at hq_ BK296.out); have n2_ := Aside0.mk (below_at hq_ HB.out); clear hq_ HO_1 BK296 HB; have HO_1 := n0_; have BK296 := n1_; have HB := n2_; clear n0_ n1_ n2_)); refine store_event (t := 111) (p := 6) (v := ?vo_w34) (w1 := (((((w32.setCell ⟨gb296, 0, none⟩ (.int .i64 ((rd_T111 l0 x13_1).f0))).setCell ⟨gb296, 1, none⟩ (.int .i64 ((rd_T111 l0 x13_1).f1))).setCell ⟨gb296, 2, none⟩ (.int .i64 ((rd_T111 l0 x13_1).f2))).setCell ⟨gb296, 3, none⟩ (.int .i64 ((rd_T111 l0 x13_1).f3))).setCell ⟨gb296, 4, none⟩ (.int .i64 ((rd_T111 l0 x13_1).f4)))) ?hg ?ho ?hn ?hr ?_; (case ho => rfl); (case hg => rfl); (case hn => rfl); (case hr => first | (go_simp; done) | (go_simp; rfl)); intro w34 hw; have n0_ : Aside0 (Kd.R (Kd.int .i64) 3 w34 w.heap.size (fun _ => True) v293 x1_1) := ⟨(by rw [hw]; exact (by (with_reducible repeat (first | apply Kd.R_alloc | apply Kd.R_drewN | apply Kd.R_drew)); exact Kd.R_mono (Kd.R_far (p := ⟨gb296, 4, none⟩) (Kd.R_far (p := ⟨gb296, 3, none⟩) (Kd.R_far (p := ⟨gb296, 2, none⟩) (Kd.R_far (p := ⟨gb296, 1, none⟩) (Kd.R_far (p := ⟨gb296, 0, none⟩) (Kd.R_types HO_1.out BK296.out (by decide)) (fun _ hk => hk.2) (.int .i64 ((rd_T111 l0 x13_1).f0))) (fun _ hk => hk.2) (.int .i64 ((rd_T111 l0 x13_1).f1))) (fun _ hk => hk.2) (.int .i64 ((rd_T111 l0 x13_1).f2))) (fun _ hk => hk.2) (.int .i64 ((rd_T111 l0 x13_1).f3))) (fun _ hk => hk.2) (.int .i64 ((rd_T111 l0 x13_1).f4))) (fun _ hk => trivial)))⟩; have n1_ : Aside0 (w34.heap[gb296]? = some (.cells #[.int .i64 ((rd_T111 l0 x13_1).f0), .int .i64 ((rd_T111 l0 x13_1).f1), .int .i64 ((rd_T111 l0 x13_1).f2), .int .i64 ((rd_T111 l0 x13_1).f3), .int .i64 ((rd_T111 l0 x13_1).f4)] 111 (0, 0))) := ⟨(by rw [hw]; exact (by (with_reducible repeat (first | refine blk_drewN ?_ _ | refine blk_drew ?_ | refine blk_alloc ?_ _)); refine blk_put (cs := #[.int .i64 ((rd_T111 l0 x13_1).f0), .int .i64 ((rd_T111 l0 x13_1).f1), .int .i64 ((rd_T111 l0 x13_1).f2), .int .i64 ((rd_T111 l0 x13_1).f3), .int .i64 0]) ?_ 4 _ rfl; (with_reducible repeat (first | refine blk_drewN ?_ _ | refine blk_drew ?_ | refine blk_alloc ?_ _)); refine blk_put (cs := #[.int .i64 ((rd_T111 l0 x13_1).f0), .int .i64 ((rd_T111 l0 x13_1).f1), .int .i64 ((rd_T111 l0 x13_1).f2), .int .i64 0, .int .i64 0]) ?_ 3 _ rfl; (with_reducible repeat (first | refine blk_drewN ?_ _ | refine blk_drew ?_ | refine blk_alloc ?_ _)); refine blk_put (cs := #[.int .i64 ((rd_T111 l0 x13_1).f0), .int .i64 ((rd_T111 l0 x13_1).f1), .int .i64 0, .int .i64 0, .int .i64 0]) ?_ 2 _ rfl; (with_reducible repeat (first | refine blk_drewN ?_ _ | refine blk_drew ?_ | refine blk_alloc ?_ _)); refine blk_put (cs := #[.int .i64 ((rd_T111 l0 x13_1).f0), .int .i64 0, .int .i64 0, .int .i64 0, .int .i64 0]) ?_ 1 _ rfl; (with_reducible repeat (first | refine blk_drewN ?_ _ | refine blk_drew ?_ | refine blk_alloc ?_ _)); refine blk_put (cs := #[.int .i64 0, .int .i64 0, .int .i64 0, .int .i64 0, .int .i64 0]) ?_ 0 _ rfl; (with_reducible repeat (first | refine blk_drewN ?_ _ | refine blk_drew ?_ | refine blk_alloc ?_ _)); exact BK296.out))⟩; have n2_ : Aside0 (Below w.heap.size w w34) := ⟨(by rw [hw]; exact (by repeat (first | (with_reducible first | exact HB.out | apply below_alloc | apply pw_below_drewN | apply below_drew1 | refine below_set ?_ GE296.out) | exact HB.out)))⟩; clear hw; clear HO_1; clear BK296; clear HB; have HO_1 := n0_; have BK296 := n1_; have HB := n2_; clear n0_ n1_ n2_; have hcz35_0 : w34.cell? ⟨gb296, 0, none⟩ = some (.int .i64 ((rd_T111 l0 x13_1).f0)) := (blk_cell BK296.out 0).trans rfl; have hcz35_1 : w34.cell? ⟨gb296, 1, none⟩ = some (.int .i64 ((rd_T111 l0 x13_1).f1)) := (blk_cell BK296.out 1).trans rfl; have hcz35_2 : w34.cell? ⟨gb296, 2, none⟩ = some (.int .i64 ((rd_T111 l0 x13_1).f2)) := (blk_cell BK296.out 2).trans rfl; have hcz35_3 : w34.cell? ⟨gb296, 3, none⟩ = some (.int .i64 ((rd_T111 l0 x13_1).f3)) := (blk_cell BK296.out 3).trans rfl; have hcz35_4 : w34.cell? ⟨gb296, 4, none⟩ = some (.int .i64 ((rd_T111 l0 x13_1).f4)) := (blk_cell BK296.out 4).trans rfl; have hfz35_0 := blk_frozen BK296.out 0; have hfz35_1 := blk_frozen BK296.out 1; have hfz35_2 := blk_frozen BK296.out 2; have hfz35_3 := blk_frozen BK296.out 3; have hfz35_4 := blk_frozen BK296.out 4; obtain ⟨Ao36, co36, eo36⟩ := Kd.R_slice HO_1.out; subst eo36; have p297 : 0 ≤ (((rd_T111 l0 x13_1).f4) : Int) := of_decide_eq_true (by first | (with_reducible assumption) | assumption); have q297 : ((rd_T111 l0 x13_1).f4) < (x1_1.length : Int) := of_decide_eq_true (by first | (with_reducible assumption) | assumption); obtain ⟨ad297, e297, hx297_0⟩ := Kd.at_int (Kd.R_reads' HO_1.out).2.2 ((rd_T111 l0 x13_1).f4) p297 q297; cases e297; replace p297 := eq_true p297; replace q297 := eq_true q297; have p31 : 0 ≤ (((rd_T111 l0 x13_1).f1) : Int) := of_decide_eq_true (by first | (with_reducible assumption) | assumption); have q31 : (((rd_T111 l0 x13_1).f1) : Int) < ((x1_1.length : Int) : Int) := of_decide_eq_true (by first | (with_reducible assumption) | assumption); obtain ⟨go31, co31, eo31, gb31, gl31, cl31, HG31⟩ := Kd.R_form HO_1.out (by omega); (first | cases eo31 | (injection eo31 with ea_ en_ ec_; (first | subst ea_ | (injection ea_ with ea_; subst ea_)); subst ec_; clear en_)); have GB31 := Aside0.mk gb31; have GG31 := Aside0.mk HG31; clear gb31 gl31 HG31; (first | simp only [add_plain] at hx297_0 | skip); obtain ⟨hx31_0, hf31_0⟩ := Kd.R_celln 0 HO_1.out (((rd_T111 l0 x13_1).f1) : Int) p31 q31; replace p31 := eq_true p31; replace q31 := eq_true q31; obtain ⟨hy37_, hz37_⟩ := Kd.R_celln 0 HO_1.out (((rd_T111 l0 x13_1).f1) : Int) (of_decide_eq_true (by first | (with_reducible assumption) | assumption)) (of_decide_eq_true (by first | (with_reducible assumption) | assumption)); have HP37 := Kd.R_putg HO_1.out (((rd_T111 l0 x13_1).f1) : Int) (rd x1_1 ((rd_T111 l0 x13_1).f4))) | ((with_reducible refine gate_store (t := 3) (p := 47) rfl ?_); (try (rw [drewN_self w34]; generalize hq_ : World.drewN w34 _ = w34; have n0_ := Aside0.mk (Kd.R_at hq_ HO_1.out); have n1_ := Aside0.mk (blk_at hq_ BK296.out); have n2_ := Aside0.mk (below_at hq_ HB.out); clear hq_ HO_1 BK296 HB; have HO_1 := n0_; have BK296 := n1_; have HB := n2_; clear n0_ n1_ n2_; (try (obtain ⟨hy37_, hz37_⟩ := Kd.R_celln 0 HO_1.out (((rd_T111 l0 x13_1).f1) : Int) (of_decide_eq_true (by first | (with_reducible assumption) | assumption)) (of_decide_eq_true (by first | (with_reducible assumption) | assumption)))); (try (have HP37 := Kd.R_putg HO_1.out (((rd_T111 l0 x13_1).f1) : Int) (rd x1_1 ((rd_T111 l0 x13_1).f4)))))); refine store_event (t := 3) (p := 47) (v := ?vo_w38) (w1 := (w34.setCell ⟨go31, (((rd_T111 l0 x13_1).f1) : Int).toNat, none⟩ (.int .i64 (rd x1_1 ((rd_T111 l0 x13_1).f4))))) ?hg ?ho ?hn ?hr ?_; (case ho => rfl); (case hg => rfl); (case hn => rfl); (case hr => first | (go_simp; done) | (go_simp; rfl)); intro w38 hw; have hg : w34.grownBy w38 (some go31) := (by rw [hw]; exact HP37.2); have hp_ : Kd.R (Kd.int .i64) 3 w38 w.heap.size (fun _ => True) (.slice (some ⟨go31, 0, none⟩) x1_1.length co36) y302 := (by rw [hw, Ny302.out]; exact HP37.1); clear HP37; have n0_ := Aside0.mk (hp_); have n1_ := Aside0.mk (blk_grown (g := gb296) (o := .cells #[.int .i64 ((rd_T111 l0 x13_1).f0), .int .i64 ((rd_T111 l0 x13_1).f1), .int .i64 ((rd_T111 l0 x13_1).f2), .int .i64 ((rd_T111 l0 x13_1).f3), .int .i64 ((rd_T111 l0 x13_1).f4)] 111 (0, 0)) (by (with_reducible repeat (first | refine blk_drewN ?_ _ | refine blk_drew ?_ | refine blk_alloc ?_ _)); exact BK296.out) hg (Kd.R_ne HO_1.out BK296.out (by decide))); have n2_ := Aside0.mk ((by rw [hw]; exact below_set (HB.out) GB31.out : Below w.heap.size w w38)); clear HO_1; clear BK296; clear HB; have HO_1 := n0_; have BK296 := n1_; have HB := n2_; clear n0_ n1_ n2_; clear hg hw hp_)))
                          go_roundg k1
                          case measure => have := HK1.out; omega
                          case rel => exact ⟨(y302), (wrap64 (x13_1 + 1)), (by first | rfl | (simp; done) | (simp [*]; done)), H', ⟨by have := HK1.out; omega⟩, ⟨by (with_reducible repeat (first | apply Kd.R_alloc | apply Kd.R_drewN | apply Kd.R_drew)); exact HO_1.out⟩, ⟨by repeat (first | (with_reducible first | exact HB.out | apply below_alloc | apply pw_below_drewN | apply below_drew1 | refine below_set ?_ GE296.out) | exact HB.out)⟩⟩
                        · rw [if_neg c30] at H
                          exact absurd H (by simp)
                      · rw [if_neg c29] at H
                        exact absurd H (by simp)
                  · rw [if_neg c12] at H
                    exact absurd H (by simp)
                · rw [if_neg c11] at H
                  exact absurd H (by simp)
              · rw [if_neg c10] at H
                have c10b0 : (((rd_T111 l0 x13_1).f0) == 2) = false := beq_eq_false_iff_ne.mpr c10
                have c10b1 : (((rd_T111 l0 x13_1).f0) != 2) = true := bne_iff_ne.mpr c10
                by_cases c39 : ((rd_T111 l0 x13_1).f0) ≥ 3
                · rw [if_pos c39] at H
                  have c39b0 : decide (3 ≤ ((rd_T111 l0 x13_1).f0)) = true := decide_eq_true c39
                  clear c39
                  by_cases c40 : 0 ≤ ((rd_T111 l0 x13_1).f2)
                  · rw [if_pos c40] at H
                    have c40b0 : decide (0 ≤ ((rd_T111 l0 x13_1).f2)) = true := decide_eq_true c40
                    clear c40
                    by_cases c41 : ((rd_T111 l0 x13_1).f2) < (x1_1.length : Int)
                    · rw [if_pos c41] at H
                      have c41b0 : decide (((rd_T111 l0 x13_1).f2) < (x1_1.length : Int)) = true := decide_eq_true c41
                      clear c41
                      by_cases c42 : 0 ≤ ((rd_T111 l0 x13_1).f3)
                      · rw [if_pos c42] at H
                        have c42b0 : decide (0 ≤ ((rd_T111 l0 x13_1).f3)) = true := decide_eq_true c42
                        clear c42
                        by_cases c43 : ((rd_T111 l0 x13_1).f3) < (x1_1.length : Int)
                        · rw [if_pos c43] at H
                          have c43b0 : decide (((rd_T111 l0 x13_1).f3) < (x1_1.length : Int)) = true := decide_eq_true c43
                          clear c43
                          replace H := Option.bind_eq_some_iff.mp H
                          obtain ⟨t305, A440, H⟩ := H
                          replace H : (if 0 ≤ ((rd_T111 l0 x13_1).f1) then (if ((rd_T111 l0 x13_1).f1) < (x1_1.length : Int) then (codemasonref_Doing.l0 k1 (x1_1.set (((rd_T111 l0 x13_1).f1) : Int).toNat t305) l0 (l0.length : Int) (wrap64 (x13_1 + 1))) else (none)) else (none)) = some r := H
                          have A44 := Aside0.mk A440
                          clear A440
                          by_cases c45 : 0 ≤ ((rd_T111 l0 x13_1).f1)
                          · rw [if_pos c45] at H
                            have c45b0 : decide (0 ≤ ((rd_T111 l0 x13_1).f1)) = true := decide_eq_true c45
                            clear c45
                            by_cases c46 : ((rd_T111 l0 x13_1).f1) < (x1_1.length : Int)
                            · rw [if_pos c46] at H
                              have c46b0 : decide (((rd_T111 l0 x13_1).f1) < (x1_1.length : Int)) = true := decide_eq_true c46
                              clear c46
                              obtain ⟨y306, hy306⟩ : ∃ y_ : List Int, y_ = (x1_1.set (((rd_T111 l0 x13_1).f1) : Int).toNat t305) := ⟨_, rfl⟩
                              replace H : (codemasonref_Doing.l0 k1 y306 l0 (l0.length : Int) (wrap64 (x13_1 + 1))) = some r := by first | (rw [hy306]; with_reducible exact H) | (have H2_ := (Option.bind_some _ _).symm.trans H; rw [hy306]; with_reducible exact H2_) | (have H2_ := (Option.bind_some _ _).symm.trans H; with_reducible exact H2_) | with_reducible exact H | (rw [hy306]; exact H) | exact H
                              have Ny306 := Aside0.mk hy306
                              clear hy306
                              have H' := Aside0.mk H
                              clear H
                              have p295 : 0 ≤ (x13_1 : Int) := of_decide_eq_true (by first | (with_reducible assumption) | assumption)
                              have q295 : x13_1 < (l0.length : Int) := of_decide_eq_true (by first | (with_reducible assumption) | assumption)
                              obtain ⟨ad295, e295, hx295_0, hx295_1, hx295_2, hx295_3, hx295_4⟩ := at_T111 HR0.out x13_1 p295 q295
                              cases e295
                              replace hx295_0 := (HB.out.cell (World.block_lt_of_cell? w _ hx295_0)).trans hx295_0
                              replace hx295_1 := (HB.out.cell (World.block_lt_of_cell? w _ hx295_1)).trans hx295_1
                              replace hx295_2 := (HB.out.cell (World.block_lt_of_cell? w _ hx295_2)).trans hx295_2
                              replace hx295_3 := (HB.out.cell (World.block_lt_of_cell? w _ hx295_3)).trans hx295_3
                              replace hx295_4 := (HB.out.cell (World.block_lt_of_cell? w _ hx295_4)).trans hx295_4
                              replace p295 := eq_true p295
                              replace q295 := eq_true q295
                              go_wp2_with (first | ((with_reducible refine gate_dst (N := 6) rfl ?_); refine box_event ?hg (N := 6) ?hd (cs := #[.int .i64 0, .int .i64 0, .int .i64 0, .int .i64 0, .int .i64 0]) (t := 111) ?hr ?_; (case hd => rfl); (case hg => rfl); (case hr => first | (go_simp; done) | (go_simp; rfl)); intro gb296 hg w48 hbox hb; have n0_ := Aside0.mk (Kd.R_below (by (with_reducible repeat (first | apply Kd.R_alloc | apply Kd.R_drewN | apply Kd.R_drew)); exact HO_1.out) hb); have n1_ := Aside0.mk (below_step (by repeat (first | (with_reducible first | exact HB.out | apply below_alloc | apply pw_below_drewN | apply below_drew1) | exact HB.out)) hb); have n2_ := Aside0.mk (hbox); have n3_ := Aside0.mk ((by rw [hg]; exact (below_size (by repeat (first | (with_reducible first | exact HB.out | apply below_alloc | apply pw_below_drewN | apply below_drew1) | exact HB.out))) : w.heap.size ≤ gb296)); have n4_ := Aside0.mk ((by rw [hg]; exact (below_size (by repeat (first | (with_reducible first | exact HB.out | apply below_alloc | apply pw_below_drewN | apply below_drew1) | exact HB.out))) : w.heap.size ≤ gb296)); clear HO_1; clear HB; have HO_1 := n0_; have HB := n1_; have BK296 := n2_; have GW296 := n3_; have GE296 := n4_; clear n0_ n1_ n2_ n3_ n4_; clear hb hbox hg; have hcz49_0 : w48.cell? ⟨gb296, 0, none⟩ = some (.int .i64 0) := (blk_cell BK296.out 0).trans rfl; have hcz49_1 : w48.cell? ⟨gb296, 1, none⟩ = some (.int .i64 0) := (blk_cell BK296.out 1).trans rfl; have hcz49_2 : w48.cell? ⟨gb296, 2, none⟩ = some (.int .i64 0) := (blk_cell BK296.out 2).trans rfl; have hcz49_3 : w48.cell? ⟨gb296, 3, none⟩ = some (.int .i64 0) := (blk_cell BK296.out 3).trans rfl; have hcz49_4 : w48.cell? ⟨gb296, 4, none⟩ = some (.int .i64 0) := (blk_cell BK296.out 4).trans rfl; have hfz49_0 := blk_frozen BK296.out 0; have hfz49_1 := blk_frozen BK296.out 1; have hfz49_2 := blk_frozen BK296.out 2; have hfz49_3 := blk_frozen BK296.out 3; have hfz49_4 := blk_frozen BK296.out 4) | ((with_reducible refine gate_store (t := 111) (p := 6) rfl ?_); (try (rw [drewN_self w48]; generalize hq_ : World.drewN w48 _ = w48; have n0_ := Aside0.mk (Kd.R_at hq_ HO_1.out); have n1_ := Aside0.mk (blk_at hq_ BK296.out); have n2_ := Aside0.mk (below_at hq_ HB.out); clear hq_ HO_1 BK296 HB; have HO_1 := n0_; have BK296 := n1_; have HB := n2_; clear n0_ n1_ n2_)); refine store_event (t := 111) (p := 6) (v := ?vo_w50) (w1 := (((((w48.setCell ⟨gb296, 0, none⟩ (.int .i64 ((rd_T111 l0 x13_1).f0))).setCell ⟨gb296, 1, none⟩ (.int .i64 ((rd_T111 l0 x13_1).f1))).setCell ⟨gb296, 2, none⟩ (.int .i64 ((rd_T111 l0 x13_1).f2))).setCell ⟨gb296, 3, none⟩ (.int .i64 ((rd_T111 l0 x13_1).f3))).setCell ⟨gb296, 4, none⟩ (.int .i64 ((rd_T111 l0 x13_1).f4)))) ?hg ?ho ?hn ?hr ?_; (case ho => rfl); (case hg => rfl); (case hn => rfl); (case hr => first | (go_simp; done) | (go_simp; rfl)); intro w50 hw; have n0_ : Aside0 (Kd.R (Kd.int .i64) 3 w50 w.heap.size (fun _ => True) v293 x1_1) := ⟨(by rw [hw]; exact (by (with_reducible repeat (first | apply Kd.R_alloc | apply Kd.R_drewN | apply Kd.R_drew)); exact Kd.R_mono (Kd.R_far (p := ⟨gb296, 4, none⟩) (Kd.R_far (p := ⟨gb296, 3, none⟩) (Kd.R_far (p := ⟨gb296, 2, none⟩) (Kd.R_far (p := ⟨gb296, 1, none⟩) (Kd.R_far (p := ⟨gb296, 0, none⟩) (Kd.R_types HO_1.out BK296.out (by decide)) (fun _ hk => hk.2) (.int .i64 ((rd_T111 l0 x13_1).f0))) (fun _ hk => hk.2) (.int .i64 ((rd_T111 l0 x13_1).f1))) (fun _ hk => hk.2) (.int .i64 ((rd_T111 l0 x13_1).f2))) (fun _ hk => hk.2) (.int .i64 ((rd_T111 l0 x13_1).f3))) (fun _ hk => hk.2) (.int .i64 ((rd_T111 l0 x13_1).f4))) (fun _ hk => trivial)))⟩; have n1_ : Aside0 (w50.heap[gb296]? = some (.cells #[.int .i64 ((rd_T111 l0 x13_1).f0), .int .i64 ((rd_T111 l0 x13_1).f1), .int .i64 ((rd_T111 l0 x13_1).f2), .int .i64 ((rd_T111 l0 x13_1).f3), .int .i64 ((rd_T111 l0 x13_1).f4)] 111 (0, 0))) := ⟨(by rw [hw]; exact (by (with_reducible repeat (first | refine blk_drewN ?_ _ | refine blk_drew ?_ | refine blk_alloc ?_ _)); refine blk_put (cs := #[.int .i64 ((rd_T111 l0 x13_1).f0), .int .i64 ((rd_T111 l0 x13_1).f1), .int .i64 ((rd_T111 l0 x13_1).f2), .int .i64 ((rd_T111 l0 x13_1).f3), .int .i64 0]) ?_ 4 _ rfl; (with_reducible repeat (first | refine blk_drewN ?_ _ | refine blk_drew ?_ | refine blk_alloc ?_ _)); refine blk_put (cs := #[.int .i64 ((rd_T111 l0 x13_1).f0), .int .i64 ((rd_T111 l0 x13_1).f1), .int .i64 ((rd_T111 l0 x13_1).f2), .int .i64 0, .int .i64 0]) ?_ 3 _ rfl; (with_reducible repeat (first | refine blk_drewN ?_ _ | refine blk_drew ?_ | refine blk_alloc ?_ _)); refine blk_put (cs := #[.int .i64 ((rd_T111 l0 x13_1).f0), .int .i64 ((rd_T111 l0 x13_1).f1), .int .i64 0, .int .i64 0, .int .i64 0]) ?_ 2 _ rfl; (with_reducible repeat (first | refine blk_drewN ?_ _ | refine blk_drew ?_ | refine blk_alloc ?_ _)); refine blk_put (cs := #[.int .i64 ((rd_T111 l0 x13_1).f0), .int .i64 0, .int .i64 0, .int .i64 0, .int .i64 0]) ?_ 1 _ rfl; (with_reducible repeat (first | refine blk_drewN ?_ _ | refine blk_drew ?_ | refine blk_alloc ?_ _)); refine blk_put (cs := #[.int .i64 0, .int .i64 0, .int .i64 0, .int .i64 0, .int .i64 0]) ?_ 0 _ rfl; (with_reducible repeat (first | refine blk_drewN ?_ _ | refine blk_drew ?_ | refine blk_alloc ?_ _)); exact BK296.out))⟩; have n2_ : Aside0 (Below w.heap.size w w50) := ⟨(by rw [hw]; exact (by repeat (first | (with_reducible first | exact HB.out | apply below_alloc | apply pw_below_drewN | apply below_drew1 | refine below_set ?_ GE296.out) | exact HB.out)))⟩; clear hw; clear HO_1; clear BK296; clear HB; have HO_1 := n0_; have BK296 := n1_; have HB := n2_; clear n0_ n1_ n2_; have hcz51_0 : w50.cell? ⟨gb296, 0, none⟩ = some (.int .i64 ((rd_T111 l0 x13_1).f0)) := (blk_cell BK296.out 0).trans rfl; have hcz51_1 : w50.cell? ⟨gb296, 1, none⟩ = some (.int .i64 ((rd_T111 l0 x13_1).f1)) := (blk_cell BK296.out 1).trans rfl; have hcz51_2 : w50.cell? ⟨gb296, 2, none⟩ = some (.int .i64 ((rd_T111 l0 x13_1).f2)) := (blk_cell BK296.out 2).trans rfl; have hcz51_3 : w50.cell? ⟨gb296, 3, none⟩ = some (.int .i64 ((rd_T111 l0 x13_1).f3)) := (blk_cell BK296.out 3).trans rfl; have hcz51_4 : w50.cell? ⟨gb296, 4, none⟩ = some (.int .i64 ((rd_T111 l0 x13_1).f4)) := (blk_cell BK296.out 4).trans rfl; have hfz51_0 := blk_frozen BK296.out 0; have hfz51_1 := blk_frozen BK296.out 1; have hfz51_2 := blk_frozen BK296.out 2; have hfz51_3 := blk_frozen BK296.out 3; have hfz51_4 := blk_frozen BK296.out 4; obtain ⟨Ao52, co52, eo52⟩ := Kd.R_slice HO_1.out; subst eo52; have p303 : 0 ≤ (((rd_T111 l0 x13_1).f2) : Int) := of_decide_eq_true (by first | (with_reducible assumption) | assumption); have q303 : ((rd_T111 l0 x13_1).f2) < (x1_1.length : Int) := of_decide_eq_true (by first | (with_reducible assumption) | assumption); obtain ⟨ad303, e303, hx303_0⟩ := Kd.at_int (Kd.R_reads' HO_1.out).2.2 ((rd_T111 l0 x13_1).f2) p303 q303; cases e303; replace p303 := eq_true p303; replace q303 := eq_true q303; have p304 : 0 ≤ (((rd_T111 l0 x13_1).f3) : Int) := of_decide_eq_true (by first | (with_reducible assumption) | assumption); have q304 : ((rd_T111 l0 x13_1).f3) < (x1_1.length : Int) := of_decide_eq_true (by first | (with_reducible assumption) | assumption); obtain ⟨ad304, e304, hx304_0⟩ := Kd.at_int (Kd.R_reads' HO_1.out).2.2 ((rd_T111 l0 x13_1).f3) p304 q304; obtain rfl : ad303 = ad304 := (by injection e304); replace p304 := eq_true p304; replace q304 := eq_true q304) | (go_at_call 105; (with_reducible refine (codemasonref_Op.calls k1 ((rd_T111 l0 x13_1).f0) (rd x1_1 ((rd_T111 l0 x13_1).f2)) (rd x1_1 ((rd_T111 l0 x13_1).f3)) t305 _ A44.out).mono ?_); rintro e w' ⟨rfl, ⟨nd, rfl⟩⟩; (try first | exact ⟨rfl, _, World.drewN_drewN _ _ _⟩ | exact ⟨rfl, _, Eq.trans (World.drewN_drewN _ _ _) (congrArg (World.drewN _) (Nat.add_assoc _ _ _))⟩); have p47 : 0 ≤ (((rd_T111 l0 x13_1).f1) : Int) := of_decide_eq_true (by first | (with_reducible assumption) | assumption); have q47 : (((rd_T111 l0 x13_1).f1) : Int) < ((x1_1.length : Int) : Int) := of_decide_eq_true (by first | (with_reducible assumption) | assumption); obtain ⟨go47, co47, eo47, gb47, gl47, cl47, HG47⟩ := Kd.R_form HO_1.out (by omega); (first | cases eo47 | (injection eo47 with ea_ en_ ec_; (first | subst ea_ | (injection ea_ with ea_; subst ea_)); subst ec_; clear en_)); have GB47 := Aside0.mk gb47; have GG47 := Aside0.mk HG47; clear gb47 gl47 HG47; (first | simp only [add_plain] at hx303_0 | skip); (first | simp only [add_plain] at hx304_0 | skip); obtain ⟨hx47_0, hf47_0⟩ := Kd.R_celln 0 HO_1.out (((rd_T111 l0 x13_1).f1) : Int) p47 q47; replace p47 := eq_true p47; replace q47 := eq_true q47; obtain ⟨hy53_, hz53_⟩ := Kd.R_celln 0 HO_1.out (((rd_T111 l0 x13_1).f1) : Int) (of_decide_eq_true (by first | (with_reducible assumption) | assumption)) (of_decide_eq_true (by first | (with_reducible assumption) | assumption)); have HP53 := Kd.R_putg HO_1.out (((rd_T111 l0 x13_1).f1) : Int) t305) | ((with_reducible refine gate_store (t := 3) (p := 47) rfl ?_); (try (rw [drewN_self w50]; generalize hq_ : World.drewN w50 _ = w50; have n0_ := Aside0.mk (Kd.R_at hq_ HO_1.out); have n1_ := Aside0.mk (blk_at hq_ BK296.out); have n2_ := Aside0.mk (below_at hq_ HB.out); clear hq_ HO_1 BK296 HB; have HO_1 := n0_; have BK296 := n1_; have HB := n2_; clear n0_ n1_ n2_; (try (obtain ⟨hy53_, hz53_⟩ := Kd.R_celln 0 HO_1.out (((rd_T111 l0 x13_1).f1) : Int) (of_decide_eq_true (by first | (with_reducible assumption) | assumption)) (of_decide_eq_true (by first | (with_reducible assumption) | assumption)))); (try (have HP53 := Kd.R_putg HO_1.out (((rd_T111 l0 x13_1).f1) : Int) t305)))); refine store_event (t := 3) (p := 47) (v := ?vo_w54) (w1 := (w50.setCell ⟨go47, (((rd_T111 l0 x13_1).f1) : Int).toNat, none⟩ (.int .i64 t305))) ?hg ?ho ?hn ?hr ?_; (case ho => rfl); (case hg => rfl); (case hn => rfl); (case hr => first | (go_simp; done) | (go_simp; rfl)); intro w54 hw; have hg : w50.grownBy w54 (some go47) := (by rw [hw]; exact HP53.2); have hp_ : Kd.R (Kd.int .i64) 3 w54 w.heap.size (fun _ => True) (.slice (some ⟨go47, 0, none⟩) x1_1.length co52) y306 := (by rw [hw, Ny306.out]; exact HP53.1); clear HP53; have n0_ := Aside0.mk (hp_); have n1_ := Aside0.mk (blk_grown (g := gb296) (o := .cells #[.int .i64 ((rd_T111 l0 x13_1).f0), .int .i64 ((rd_T111 l0 x13_1).f1), .int .i64 ((rd_T111 l0 x13_1).f2), .int .i64 ((rd_T111 l0 x13_1).f3), .int .i64 ((rd_T111 l0 x13_1).f4)] 111 (0, 0)) (by (with_reducible repeat (first | refine blk_drewN ?_ _ | refine blk_drew ?_ | refine blk_alloc ?_ _)); exact BK296.out) hg (Kd.R_ne HO_1.out BK296.out (by decide))); have n2_ := Aside0.mk ((by rw [hw]; exact below_set (HB.out) GB47.out : Below w.heap.size w w54)); clear HO_1; clear BK296; clear HB; have HO_1 := n0_; have BK296 := n1_; have HB := n2_; clear n0_ n1_ n2_; clear hg hw hp_))
                              repeat (go_quiet (first | ((with_reducible refine gate_dst (N := 6) rfl ?_); refine box_event ?hg (N := 6) ?hd (cs := #[.int .i64 0, .int .i64 0, .int .i64 0, .int .i64 0, .int .i64 0]) (t := 111) ?hr ?_; (case hd => rfl); (case hg => rfl); (case hr => first | (go_simp; done) | (go_simp; rfl)); intro gb296 hg w48 hbox hb; have n0_ := Aside0.mk (Kd.R_below (by (with_reducible repeat (first | apply Kd.R_alloc | apply Kd.R_drewN | apply Kd.R_drew)); exact HO_1.out) hb); have n1_ := Aside0.mk (below_step (by repeat (first | (with_reducible first | exact HB.out | apply below_alloc | apply pw_below_drewN | apply below_drew1) | exact HB.out)) hb); have n2_ := Aside0.mk (hbox); have n3_ := Aside0.mk ((by rw [hg]; exact (below_size (by repeat (first | (with_reducible first | exact HB.out | apply below_alloc | apply pw_below_drewN | apply below_drew1) | exact HB.out))) : w.heap.size ≤ gb296)); have n4_ := Aside0.mk ((by rw [hg]; exact (below_size (by repeat (first | (with_reducible first | exact HB.out | apply below_alloc | apply pw_below_drewN | apply below_drew1) | exact HB.out))) : w.heap.size ≤ gb296)); clear HO_1; clear HB; have HO_1 := n0_; have HB := n1_; have BK296 := n2_; have GW296 := n3_; have GE296 := n4_; clear n0_ n1_ n2_ n3_ n4_; clear hb hbox hg; have hcz49_0 : w48.cell? ⟨gb296, 0, none⟩ = some (.int .i64 0) := (blk_cell BK296.out 0).trans rfl; have hcz49_1 : w48.cell? ⟨gb296, 1, none⟩ = some (.int .i64 0) := (blk_cell BK296.out 1).trans rfl; have hcz49_2 : w48.cell? ⟨gb296, 2, none⟩ = some (.int .i64 0) := (blk_cell BK296.out 2).trans rfl; have hcz49_3 : w48.cell? ⟨gb296, 3, none⟩ = some (.int .i64 0) := (blk_cell BK296.out 3).trans rfl; have hcz49_4 : w48.cell? ⟨gb296, 4, none⟩ = some (.int .i64 0) := (blk_cell BK296.out 4).trans rfl; have hfz49_0 := blk_frozen BK296.out 0; have hfz49_1 := blk_frozen BK296.out 1; have hfz49_2 := blk_frozen BK296.out 2; have hfz49_3 := blk_frozen BK296.out 3; have hfz49_4 := blk_frozen BK296.out 4) | ((with_reducible refine gate_store (t := 111) (p := 6) rfl ?_); (try (rw [drewN_self w48]; generalize hq_ : World.drewN w48 _ = w48; have n0_ := Aside0.mk (Kd.R_at hq_ HO_1.out); have n1_ := Aside0.mk (blk_at hq_ BK296.out); have n2_ := Aside0.mk (below_at hq_ HB.out); clear hq_ HO_1 BK296 HB; have HO_1 := n0_; have BK296 := n1_; have HB := n2_; clear n0_ n1_ n2_)); refine store_event (t := 111) (p := 6) (v := ?vo_w50) (w1 := (((((w48.setCell ⟨gb296, 0, none⟩ (.int .i64 ((rd_T111 l0 x13_1).f0))).setCell ⟨gb296, 1, none⟩ (.int .i64 ((rd_T111 l0 x13_1).f1))).setCell ⟨gb296, 2, none⟩ (.int .i64 ((rd_T111 l0 x13_1).f2))).setCell ⟨gb296, 3, none⟩ (.int .i64 ((rd_T111 l0 x13_1).f3))).setCell ⟨gb296, 4, none⟩ (.int .i64 ((rd_T111 l0 x13_1).f4)))) ?hg ?ho ?hn ?hr ?_; (case ho => rfl); (case hg => rfl); (case hn => rfl); (case hr => first | (go_simp; done) | (go_simp; rfl)); intro w50 hw; have n0_ : Aside0 (Kd.R (Kd.int .i64) 3 w50 w.heap.size (fun _ => True) v293 x1_1) := ⟨(by rw [hw]; exact (by (with_reducible repeat (first | apply Kd.R_alloc | apply Kd.R_drewN | apply Kd.R_drew)); exact Kd.R_mono (Kd.R_far (p := ⟨gb296, 4, none⟩) (Kd.R_far (p := ⟨gb296, 3, none⟩) (Kd.R_far (p := ⟨gb296, 2, none⟩) (Kd.R_far (p := ⟨gb296, 1, none⟩) (Kd.R_far (p := ⟨gb296, 0, none⟩) (Kd.R_types HO_1.out BK296.out (by decide)) (fun _ hk => hk.2) (.int .i64 ((rd_T111 l0 x13_1).f0))) (fun _ hk => hk.2) (.int .i64 ((rd_T111 l0 x13_1).f1))) (fun _ hk => hk.2) (.int .i64 ((rd_T111 l0 x13_1).f2))) (fun _ hk => hk.2) (.int .i64 ((rd_T111 l0 x13_1).f3))) (fun _ hk => hk.2) (.int .i64 ((rd_T111 l0 x13_1).f4))) (fun _ hk => trivial)))⟩; have n1_ : Aside0 (w50.heap[gb296]? = some (.cells #[.int .i64 ((rd_T111 l0 x13_1).f0), .int .i64 ((rd_T111 l0 x13_1).f1), .int .i64 ((rd_T111 l0 x13_1).f2), .int .i64 ((rd_T111 l0 x13_1).f3), .int .i64 ((rd_T111 l0 x13_1).f4)] 111 (0, 0))) := ⟨(by rw [hw]; exact (by (with_reducible repeat (first | refine blk_drewN ?_ _ | refine blk_drew ?_ | refine blk_alloc ?_ _)); refine blk_put (cs := #[.int .i64 ((rd_T111 l0 x13_1).f0), .int .i64 ((rd_T111 l0 x13_1).f1), .int .i64 ((rd_T111 l0 x13_1).f2), .int .i64 ((rd_T111 l0 x13_1).f3), .int .i64 0]) ?_ 4 _ rfl; (with_reducible repeat (first | refine blk_drewN ?_ _ | refine blk_drew ?_ | refine blk_alloc ?_ _)); refine blk_put (cs := #[.int .i64 ((rd_T111 l0 x13_1).f0), .int .i64 ((rd_T111 l0 x13_1).f1), .int .i64 ((rd_T111 l0 x13_1).f2), .int .i64 0, .int .i64 0]) ?_ 3 _ rfl; (with_reducible repeat (first | refine blk_drewN ?_ _ | refine blk_drew ?_ | refine blk_alloc ?_ _)); refine blk_put (cs := #[.int .i64 ((rd_T111 l0 x13_1).f0), .int .i64 ((rd_T111 l0 x13_1).f1), .int .i64 0, .int .i64 0, .int .i64 0]) ?_ 2 _ rfl; (with_reducible repeat (first | refine blk_drewN ?_ _ | refine blk_drew ?_ | refine blk_alloc ?_ _)); refine blk_put (cs := #[.int .i64 ((rd_T111 l0 x13_1).f0), .int .i64 0, .int .i64 0, .int .i64 0, .int .i64 0]) ?_ 1 _ rfl; (with_reducible repeat (first | refine blk_drewN ?_ _ | refine blk_drew ?_ | refine blk_alloc ?_ _)); refine blk_put (cs := #[.int .i64 0, .int .i64 0, .int .i64 0, .int .i64 0, .int .i64 0]) ?_ 0 _ rfl; (with_reducible repeat (first | refine blk_drewN ?_ _ | refine blk_drew ?_ | refine blk_alloc ?_ _)); exact BK296.out))⟩; have n2_ : Aside0 (Below w.heap.size w w50) := ⟨(by rw [hw]; exact (by repeat (first | (with_reducible first | exact HB.out | apply below_alloc | apply pw_below_drewN | apply below_drew1 | refine below_set ?_ GE296.out) | exact HB.out)))⟩; clear hw; clear HO_1; clear BK296; clear HB; have HO_1 := n0_; have BK296 := n1_; have HB := n2_; clear n0_ n1_ n2_; have hcz51_0 : w50.cell? ⟨gb296, 0, none⟩ = some (.int .i64 ((rd_T111 l0 x13_1).f0)) := (blk_cell BK296.out 0).trans rfl; have hcz51_1 : w50.cell? ⟨gb296, 1, none⟩ = some (.int .i64 ((rd_T111 l0 x13_1).f1)) := (blk_cell BK296.out 1).trans rfl; have hcz51_2 : w50.cell? ⟨gb296, 2, none⟩ = some (.int .i64 ((rd_T111 l0 x13_1).f2)) := (blk_cell BK296.out 2).trans rfl; have hcz51_3 : w50.cell? ⟨gb296, 3, none⟩ = some (.int .i64 ((rd_T111 l0 x13_1).f3)) := (blk_cell BK296.out 3).trans rfl; have hcz51_4 : w50.cell? ⟨gb296, 4, none⟩ = some (.int .i64 ((rd_T111 l0 x13_1).f4)) := (blk_cell BK296.out 4).trans rfl; have hfz51_0 := blk_frozen BK296.out 0; have hfz51_1 := blk_frozen BK296.out 1; have hfz51_2 := blk_frozen BK296.out 2; have hfz51_3 := blk_frozen BK296.out 3; have hfz51_4 := blk_frozen BK296.out 4; obtain ⟨Ao52, co52, eo52⟩ := Kd.R_slice HO_1.out; subst eo52; have p303 : 0 ≤ (((rd_T111 l0 x13_1).f2) : Int) := of_decide_eq_true (by first | (with_reducible assumption) | assumption); have q303 : ((rd_T111 l0 x13_1).f2) < (x1_1.length : Int) := of_decide_eq_true (by first | (with_reducible assumption) | assumption); obtain ⟨ad303, e303, hx303_0⟩ := Kd.at_int (Kd.R_reads' HO_1.out).2.2 ((rd_T111 l0 x13_1).f2) p303 q303; cases e303; replace p303 := eq_true p303; replace q303 := eq_true q303; have p304 : 0 ≤ (((rd_T111 l0 x13_1).f3) : Int) := of_decide_eq_true (by first | (with_reducible assumption) | assumption); have q304 : ((rd_T111 l0 x13_1).f3) < (x1_1.length : Int) := of_decide_eq_true (by first | (with_reducible assumption) | assumption); obtain ⟨ad304, e304, hx304_0⟩ := Kd.at_int (Kd.R_reads' HO_1.out).2.2 ((rd_T111 l0 x13_1).f3) p304 q304; obtain rfl : ad303 = ad304 := (by injection e304); replace p304 := eq_true p304; replace q304 := eq_true q304) | (go_at_call 105; (with_reducible refine (codemasonref_Op.calls k1 ((rd_T111 l0 x13_1).f0) (rd x1_1 ((rd_T111 l0 x13_1).f2)) (rd x1_1 ((rd_T111 l0 x13_1).f3)) t305 _ A44.out).mono ?_); rintro e w' ⟨rfl, ⟨nd, rfl⟩⟩; (try first | exact ⟨rfl, _, World.drewN_drewN _ _ _⟩ | exact ⟨rfl, _, Eq.trans (World.drewN_drewN _ _ _) (congrArg (World.drewN _) (Nat.add_assoc _ _ _))⟩); have p47 : 0 ≤ (((rd_T111 l0 x13_1).f1) : Int) := of_decide_eq_true (by first | (with_reducible assumption) | assumption); have q47 : (((rd_T111 l0 x13_1).f1) : Int) < ((x1_1.length : Int) : Int) := of_decide_eq_true (by first | (with_reducible assumption) | assumption); obtain ⟨go47, co47, eo47, gb47, gl47, cl47, HG47⟩ := Kd.R_form HO_1.out (by omega); (first | cases eo47 | (injection eo47 with ea_ en_ ec_; (first | subst ea_ | (injection ea_ with ea_; subst ea_)); subst ec_; clear en_)); have GB47 := Aside0.mk gb47; have GG47 := Aside0.mk HG47; clear gb47 gl47 HG47; (first | simp only [add_plain] at hx303_0 | skip); (first | simp only [add_plain] at hx304_0 | skip); obtain ⟨hx47_0, hf47_0⟩ := Kd.R_celln 0 HO_1.out (((rd_T111 l0 x13_1).f1) : Int) p47 q47; replace p47 := eq_true p47; replace q47 := eq_true q47; obtain ⟨hy53_, hz53_⟩ := Kd.R_celln 0 HO_1.out (((rd_T111 l0 x13_1).f1) : Int) (of_decide_eq_true (by first | (with_reducible assumption) | assumption)) (of_decide_eq_true (by first | (with_reducible assumption) | assumption)); have HP53 := Kd.R_putg HO_1.out (((rd_T111 l0 x13_1).f1) : Int) t305) | ((with_reducible refine gate_store (t := 3) (p := 47) rfl ?_); (try (rw [drewN_self w50]; generalize hq_ : World.drewN w50 _ = w50; have n0_ := Aside0.mk (Kd.R_at hq_ HO_1.out); have n1_ := Aside0.mk (blk_at hq_ BK296.out); have n2_ := Aside0.mk (below_at hq_ HB.out); clear hq_ HO_1 BK296 HB; have HO_1 := n0_; have BK296 := n1_; have HB := n2_; clear n0_ n1_ n2_; (try (obtain ⟨hy53_, hz53_⟩ := Kd.R_celln 0 HO_1.out (((rd_T111 l0 x13_1).f1) : Int) (of_decide_eq_true (by first | (with_reducible assumption) | assumption)) (of_decide_eq_true (by first | (with_reducible assumption) | assumption)))); (try (have HP53 := Kd.R_putg HO_1.out (((rd_T111 l0 x13_1).f1) : Int) t305)))); refine store_event (t := 3) (p := 47) (v := ?vo_w54) (w1 := (w50.setCell ⟨go47, (((rd_T111 l0 x13_1).f1) : Int).toNat, none⟩ (.int .i64 t305))) ?hg ?ho ?hn ?hr ?_; (case ho => rfl); (case hg => rfl); (case hn => rfl); (case hr => first | (go_simp; done) | (go_simp; rfl)); intro w54 hw; have hg : w50.grownBy w54 (some go47) := (by rw [hw]; exact HP53.2); have hp_ : Kd.R (Kd.int .i64) 3 w54 w.heap.size (fun _ => True) (.slice (some ⟨go47, 0, none⟩) x1_1.length co52) y306 := (by rw [hw, Ny306.out]; exact HP53.1); clear HP53; have n0_ := Aside0.mk (hp_); have n1_ := Aside0.mk (blk_grown (g := gb296) (o := .cells #[.int .i64 ((rd_T111 l0 x13_1).f0), .int .i64 ((rd_T111 l0 x13_1).f1), .int .i64 ((rd_T111 l0 x13_1).f2), .int .i64 ((rd_T111 l0 x13_1).f3), .int .i64 ((rd_T111 l0 x13_1).f4)] 111 (0, 0)) (by (with_reducible repeat (first | refine blk_drewN ?_ _ | refine blk_drew ?_ | refine blk_alloc ?_ _)); exact BK296.out) hg (Kd.R_ne HO_1.out BK296.out (by decide))); have n2_ := Aside0.mk ((by rw [hw]; exact below_set (HB.out) GB47.out : Below w.heap.size w w54)); clear HO_1; clear BK296; clear HB; have HO_1 := n0_; have BK296 := n1_; have HB := n2_; clear n0_ n1_ n2_; clear hg hw hp_)); try go_wp2_with (first | ((with_reducible refine gate_dst (N := 6) rfl ?_); refine box_event ?hg (N := 6) ?hd (cs := #[.int .i64 0, .int .i64 0, .int .i64 0, .int .i64 0, .int .i64 0]) (t := 111) ?hr ?_; (case hd => rfl); (case hg => rfl); (case hr => first | (go_simp; done) | (go_simp; rfl)); intro gb296 hg w48 hbox hb; have n0_ := Aside0.mk (Kd.R_below (by (with_reducible repeat (first | apply Kd.R_alloc | apply Kd.R_drewN | apply Kd.R_drew)); exact HO_1.out) hb); have n1_ := Aside0.mk (below_step (by repeat (first | (with_reducible first | exact HB.out | apply below_alloc | apply pw_below_drewN | apply below_drew1) | exact HB.out)) hb); have n2_ := Aside0.mk (hbox); have n3_ := Aside0.mk ((by rw [hg]; exact (below_size (by repeat (first | (with_reducible first | exact HB.out | apply below_alloc | apply pw_below_drewN | apply below_drew1) | exact HB.out))) : w.heap.size ≤ gb296)); have n4_ := Aside0.mk ((by rw [hg]; exact (below_size (by repeat (first | (with_reducible first | exact HB.out | apply below_alloc | apply pw_below_drewN | apply below_drew1) | exact HB.out))) : w.heap.size ≤ gb296)); clear HO_1; clear HB; have HO_1 := n0_; have HB := n1_; have BK296 := n2_; have GW296 := n3_; have GE296 := n4_; clear n0_ n1_ n2_ n3_ n4_; clear hb hbox hg; have hcz49_0 : w48.cell? ⟨gb296, 0, none⟩ = some (.int .i64 0) := (blk_cell BK296.out 0).trans rfl; have hcz49_1 : w48.cell? ⟨gb296, 1, none⟩ = some (.int .i64 0) := (blk_cell BK296.out 1).trans rfl; have hcz49_2 : w48.cell? ⟨gb296, 2, none⟩ = some (.int .i64 0) := (blk_cell BK296.out 2).trans rfl; have hcz49_3 : w48.cell? ⟨gb296, 3, none⟩ = some (.int .i64 0) := (blk_cell BK296.out 3).trans rfl; have hcz49_4 : w48.cell? ⟨gb296, 4, none⟩ = some (.int .i64 0) := (blk_cell BK296.out 4).trans rfl; have hfz49_0 := blk_frozen BK296.out 0; have hfz49_1 := blk_frozen BK296.out 1; have hfz49_2 := blk_frozen BK296.out 2; have hfz49_3 := blk_frozen BK296.out 3; have hfz49_4 := blk_frozen BK296.out 4) | ((with_reducible refine gate_store (t := 111) (p := 6) rfl ?_); (try (rw [drewN_self w48]; generalize hq_ : World.drewN w48 _ = w48; have n0_ := Aside0.mk (Kd.R_at hq_ HO_1.out); have n1_ := Aside0.mk (blk_at hq_ BK296.out); have n2_ := Aside0.mk (below_at hq_ HB.out); clear hq_ HO_1 BK296 HB; have HO_1 := n0_; have BK296 := n1_; have HB := n2_; clear n0_ n1_ n2_)); refine store_event (t := 111) (p := 6) (v := ?vo_w50) (w1 := (((((w48.setCell ⟨gb296, 0, none⟩ (.int .i64 ((rd_T111 l0 x13_1).f0))).setCell ⟨gb296, 1, none⟩ (.int .i64 ((rd_T111 l0 x13_1).f1))).setCell ⟨gb296, 2, none⟩ (.int .i64 ((rd_T111 l0 x13_1).f2))).setCell ⟨gb296, 3, none⟩ (.int .i64 ((rd_T111 l0 x13_1).f3))).setCell ⟨gb296, 4, none⟩ (.int .i64 ((rd_T111 l0 x13_1).f4)))) ?hg ?ho ?hn ?hr ?_; (case ho => rfl); (case hg => rfl); (case hn => rfl); (case hr => first | (go_simp; done) | (go_simp; rfl)); intro w50 hw; have n0_ : Aside0 (Kd.R (Kd.int .i64) 3 w50 w.heap.size (fun _ => True) v293 x1_1) := ⟨(by rw [hw]; exact (by (with_reducible repeat (first | apply Kd.R_alloc | apply Kd.R_drewN | apply Kd.R_drew)); exact Kd.R_mono (Kd.R_far (p := ⟨gb296, 4, none⟩) (Kd.R_far (p := ⟨gb296, 3, none⟩) (Kd.R_far (p := ⟨gb296, 2, none⟩) (Kd.R_far (p := ⟨gb296, 1, none⟩) (Kd.R_far (p := ⟨gb296, 0, none⟩) (Kd.R_types HO_1.out BK296.out (by decide)) (fun _ hk => hk.2) (.int .i64 ((rd_T111 l0 x13_1).f0))) (fun _ hk => hk.2) (.int .i64 ((rd_T111 l0 x13_1).f1))) (fun _ hk => hk.2) (.int .i64 ((rd_T111 l0 x13_1).f2))) (fun _ hk => hk.2) (.int .i64 ((rd_T111 l0 x13_1).f3))) (fun _ hk => hk.2) (.int .i64 ((rd_T111 l0 x13_1).f4))) (fun _ hk => trivial)))⟩; have n1_ : Aside0 (w50.heap[gb296]? = some (.cells #[.int .i64 ((rd_T111 l0 x13_1).f0), .int .i64 ((rd_T111 l0 x13_1).f1), .int .i64 ((rd_T111 l0 x13_1).f2), .int .i64 ((rd_T111 l0 x13_1).f3), .int .i64 ((rd_T111 l0 x13_1).f4)] 111 (0, 0))) := ⟨(by rw [hw]; exact (by (with_reducible repeat (first | refine blk_drewN ?_ _ | refine blk_drew ?_ | refine blk_alloc ?_ _)); refine blk_put (cs := #[.int .i64 ((rd_T111 l0 x13_1).f0), .int .i64 ((rd_T111 l0 x13_1).f1), .int .i64 ((rd_T111 l0 x13_1).f2), .int .i64 ((rd_T111 l0 x13_1).f3), .int .i64 0]) ?_ 4 _ rfl; (with_reducible repeat (first | refine blk_drewN ?_ _ | refine blk_drew ?_ | refine blk_alloc ?_ _)); refine blk_put (cs := #[.int .i64 ((rd_T111 l0 x13_1).f0), .int .i64 ((rd_T111 l0 x13_1).f1), .int .i64 ((rd_T111 l0 x13_1).f2), .int .i64 0, .int .i64 0]) ?_ 3 _ rfl; (with_reducible repeat (first | refine blk_drewN ?_ _ | refine blk_drew ?_ | refine blk_alloc ?_ _)); refine blk_put (cs := #[.int .i64 ((rd_T111 l0 x13_1).f0), .int .i64 ((rd_T111 l0 x13_1).f1), .int .i64 0, .int .i64 0, .int .i64 0]) ?_ 2 _ rfl; (with_reducible repeat (first | refine blk_drewN ?_ _ | refine blk_drew ?_ | refine blk_alloc ?_ _)); refine blk_put (cs := #[.int .i64 ((rd_T111 l0 x13_1).f0), .int .i64 0, .int .i64 0, .int .i64 0, .int .i64 0]) ?_ 1 _ rfl; (with_reducible repeat (first | refine blk_drewN ?_ _ | refine blk_drew ?_ | refine blk_alloc ?_ _)); refine blk_put (cs := #[.int .i64 0, .int .i64 0, .int .i64 0, .int .i64 0, .int .i64 0]) ?_ 0 _ rfl; (with_reducible repeat (first | refine blk_drewN ?_ _ | refine blk_drew ?_ | refine blk_alloc ?_ _)); exact BK296.out))⟩; have n2_ : Aside0 (Below w.heap.size w w50) := ⟨(by rw [hw]; exact (by repeat (first | (with_reducible first | exact HB.out | apply below_alloc | apply pw_below_drewN | apply below_drew1 | refine below_set ?_ GE296.out) | exact HB.out)))⟩; clear hw; clear HO_1; clear BK296; clear HB; have HO_1 := n0_; have BK296 := n1_; have HB := n2_; clear n0_ n1_ n2_; have hcz51_0 : w50.cell? ⟨gb296, 0, none⟩ = some (.int .i64 ((rd_T111 l0 x13_1).f0)) := (blk_cell BK296.out 0).trans rfl; have hcz51_1 : w50.cell? ⟨gb296, 1, none⟩ = some (.int .i64 ((rd_T111 l0 x13_1).f1)) := (blk_cell BK296.out 1).trans rfl; have hcz51_2 : w50.cell? ⟨gb296, 2, none⟩ = some (.int .i64 ((rd_T111 l0 x13_1).f2)) := (blk_cell BK296.out 2).trans rfl; have hcz51_3 : w50.cell? ⟨gb296, 3, none⟩ = some (.int .i64 ((rd_T111 l0 x13_1).f3)) := (blk_cell BK296.out 3).trans rfl; have hcz51_4 : w50.cell? ⟨gb296, 4, none⟩ = some (.int .i64 ((rd_T111 l0 x13_1).f4)) := (blk_cell BK296.out 4).trans rfl; have hfz51_0 := blk_frozen BK296.out 0; have hfz51_1 := blk_frozen BK296.out 1; have hfz51_2 := blk_frozen BK296.out 2; have hfz51_3 := blk_frozen BK296.out 3; have hfz51_4 := blk_frozen BK296.out 4; obtain ⟨Ao52, co52, eo52⟩ := Kd.R_slice HO_1.out; subst eo52; have p303 : 0 ≤ (((rd_T111 l0 x13_1).f2) : Int) := of_decide_eq_true (by first | (with_reducible assumption) | assumption); have q303 : ((rd_T111 l0 x13_1).f2) < (x1_1.length : Int) := of_decide_eq_true (by first | (with_reducible assumption) | assumption); obtain ⟨ad303, e303, hx303_0⟩ := Kd.at_int (Kd.R_reads' HO_1.out).2.2 ((rd_T111 l0 x13_1).f2) p303 q303; cases e303; replace p303 := eq_true p303; replace q303 := eq_true q303; have p304 : 0 ≤ (((rd_T111 l0 x13_1).f3) : Int) := of_decide_eq_true (by first | (with_reducible assumption) | assumption); have q304 : ((rd_T111 l0 x13_1).f3) < (x1_1.length : Int) := of_decide_eq_true (by first | (with_reducible assumption) | assumption); obtain ⟨ad304, e304, hx304_0⟩ := Kd.at_int (Kd.R_reads' HO_1.out).2.2 ((rd_T111 l0 x13_1).f3) p304 q304; obtain rfl : ad303 = ad304 := (by injection e304); replace p304 := eq_true p304; replace q304 := eq_true q304) | (go_at_call 105; (with_reducible refine (codemasonref_Op.calls k1 ((rd_T111 l0 x13_1).f0) (rd x1_1 ((rd_T111 l0 x13_1).f2)) (rd x1_1 ((rd_T111 l0 x13_1).f3)) t305 _ A44.out).mono ?_); rintro e w' ⟨rfl, ⟨nd, rfl⟩⟩; (try first | exact ⟨rfl, _, World.drewN_drewN _ _ _⟩ | exact ⟨rfl, _, Eq.trans (World.drewN_drewN _ _ _) (congrArg (World.drewN _) (Nat.add_assoc _ _ _))⟩); have p47 : 0 ≤ (((rd_T111 l0 x13_1).f1) : Int) := of_decide_eq_true (by first | (with_reducible assumption) | assumption); have q47 : (((rd_T111 l0 x13_1).f1) : Int) < ((x1_1.length : Int) : Int) := of_decide_eq_true (by first | (with_reducible assumption) | assumption); obtain ⟨go47, co47, eo47, gb47, gl47, cl47, HG47⟩ := Kd.R_form HO_1.out (by omega); (first | cases eo47 | (injection eo47 with ea_ en_ ec_; (first | subst ea_ | (injection ea_ with ea_; subst ea_)); subst ec_; clear en_)); have GB47 := Aside0.mk gb47; have GG47 := Aside0.mk HG47; clear gb47 gl47 HG47; (first | simp only [add_plain] at hx303_0 | skip); (first | simp only [add_plain] at hx304_0 | skip); obtain ⟨hx47_0, hf47_0⟩ := Kd.R_celln 0 HO_1.out (((rd_T111 l0 x13_1).f1) : Int) p47 q47; replace p47 := eq_true p47; replace q47 := eq_true q47; obtain ⟨hy53_, hz53_⟩ := Kd.R_celln 0 HO_1.out (((rd_T111 l0 x13_1).f1) : Int) (of_decide_eq_true (by first | (with_reducible assumption) | assumption)) (of_decide_eq_true (by first | (with_reducible assumption) | assumption)); have HP53 := Kd.R_putg HO_1.out (((rd_T111 l0 x13_1).f1) : Int) t305) | ((with_reducible refine gate_store (t := 3) (p := 47) rfl ?_); (try (rw [drewN_self w50]; generalize hq_ : World.drewN w50 _ = w50; have n0_ := Aside0.mk (Kd.R_at hq_ HO_1.out); have n1_ := Aside0.mk (blk_at hq_ BK296.out); have n2_ := Aside0.mk (below_at hq_ HB.out); clear hq_ HO_1 BK296 HB; have HO_1 := n0_; have BK296 := n1_; have HB := n2_; clear n0_ n1_ n2_; (try (obtain ⟨hy53_, hz53_⟩ := Kd.R_celln 0 HO_1.out (((rd_T111 l0 x13_1).f1) : Int) (of_decide_eq_true (by first | (with_reducible assumption) | assumption)) (of_decide_eq_true (by first | (with_reducible assumption) | assumption)))); (try (have HP53 := Kd.R_putg HO_1.out (((rd_T111 l0 x13_1).f1) : Int) t305)))); refine store_event (t := 3) (p := 47) (v := ?vo_w54) (w1 := (w50.setCell ⟨go47, (((rd_T111 l0 x13_1).f1) : Int).toNat, none⟩ (.int .i64 t305))) ?hg ?ho ?hn ?hr ?_; (case ho => rfl); (case hg => rfl); (case hn => rfl); (case hr => first | (go_simp; done) | (go_simp; rfl)); intro w54 hw; have hg : w50.grownBy w54 (some go47) := (by rw [hw]; exact HP53.2); have hp_ : Kd.R (Kd.int .i64) 3 w54 w.heap.size (fun _ => True) (.slice (some ⟨go47, 0, none⟩) x1_1.length co52) y306 := (by rw [hw, Ny306.out]; exact HP53.1); clear HP53; have n0_ := Aside0.mk (hp_); have n1_ := Aside0.mk (blk_grown (g := gb296) (o := .cells #[.int .i64 ((rd_T111 l0 x13_1).f0), .int .i64 ((rd_T111 l0 x13_1).f1), .int .i64 ((rd_T111 l0 x13_1).f2), .int .i64 ((rd_T111 l0 x13_1).f3), .int .i64 ((rd_T111 l0 x13_1).f4)] 111 (0, 0)) (by (with_reducible repeat (first | refine blk_drewN ?_ _ | refine blk_drew ?_ | refine blk_alloc ?_ _)); exact BK296.out) hg (Kd.R_ne HO_1.out BK296.out (by decide))); have n2_ := Aside0.mk ((by rw [hw]; exact below_set (HB.out) GB47.out : Below w.heap.size w w54)); clear HO_1; clear BK296; clear HB; have HO_1 := n0_; have BK296 := n1_; have HB := n2_; clear n0_ n1_ n2_; clear hg hw hp_)))
                              go_roundg k1
                              case measure => have := HK1.out; omega
                              case rel => exact ⟨(y306), (wrap64 (x13_1 + 1)), (by first | rfl | (simp; done) | (simp [*]; done)), H', ⟨by have := HK1.out; omega⟩, ⟨by (with_reducible repeat (first | apply Kd.R_alloc | apply Kd.R_drewN | apply Kd.R_drew)); exact HO_1.out⟩, ⟨by repeat (first | (with_reducible first | exact HB.out | apply below_alloc | apply pw_below_drewN | apply below_drew1 | refine below_set ?_ GE296.out) | exact HB.out)⟩⟩
                            · rw [if_neg c46] at H
                              exact absurd H (by simp)
                          · rw [if_neg c45] at H
                            exact absurd H (by simp)
                        · rw [if_neg c43] at H
                          exact absurd H (by simp)
                      · rw [if_neg c42] at H
                        exact absurd H (by simp)
                    · rw [if_neg c41] at H
                      exact absurd H (by simp)
                  · rw [if_neg c40] at H
                    exact absurd H (by simp)
                · rw [if_neg c39] at H
                  have c39b0 : decide (3 ≤ ((rd_T111 l0 x13_1).f0)) = false := decide_eq_false c39
                  clear c39
                  by_cases c55 : 0 ≤ ((rd_T111 l0 x13_1).f1)
                  · rw [if_pos c55] at H
                    have c55b0 : decide (0 ≤ ((rd_T111 l0 x13_1).f1)) = true := decide_eq_true c55
                    clear c55
                    by_cases c56 : ((rd_T111 l0 x13_1).f1) < (x1_1.length : Int)
                    · rw [if_pos c56] at H
                      have c56b0 : decide (((rd_T111 l0 x13_1).f1) < (x1_1.length : Int)) = true := decide_eq_true c56
                      clear c56
                      obtain ⟨y307, hy307⟩ : ∃ y_ : List Int, y_ = (x1_1.set (((rd_T111 l0 x13_1).f1) : Int).toNat ((rd_T111 l0 x13_1).f4)) := ⟨_, rfl⟩
                      replace H : (codemasonref_Doing.l0 k1 y307 l0 (l0.length : Int) (wrap64 (x13_1 + 1))) = some r := by first | (rw [hy307]; with_reducible exact H) | (have H2_ := (Option.bind_some _ _).symm.trans H; rw [hy307]; with_reducible exact H2_) | (have H2_ := (Option.bind_some _ _).symm.trans H; with_reducible exact H2_) | with_reducible exact H | (rw [hy307]; exact H) | exact H
                      have Ny307 := Aside0.mk hy307
                      clear hy307
                      have H' := Aside0.mk H
                      clear H
                      have p295 : 0 ≤ (x13_1 : Int) := of_decide_eq_true (by first | (with_reducible assumption) | assumption)
                      have q295 : x13_1 < (l0.length : Int) := of_decide_eq_true (by first | (with_reducible assumption) | assumption)
                      obtain ⟨ad295, e295, hx295_0, hx295_1, hx295_2, hx295_3, hx295_4⟩ := at_T111 HR0.out x13_1 p295 q295
                      cases e295
                      replace hx295_0 := (HB.out.cell (World.block_lt_of_cell? w _ hx295_0)).trans hx295_0
                      replace hx295_1 := (HB.out.cell (World.block_lt_of_cell? w _ hx295_1)).trans hx295_1
                      replace hx295_2 := (HB.out.cell (World.block_lt_of_cell? w _ hx295_2)).trans hx295_2
                      replace hx295_3 := (HB.out.cell (World.block_lt_of_cell? w _ hx295_3)).trans hx295_3
                      replace hx295_4 := (HB.out.cell (World.block_lt_of_cell? w _ hx295_4)).trans hx295_4
                      replace p295 := eq_true p295
                      replace q295 := eq_true q295
                      go_wp2_with (first | ((with_reducible refine gate_dst (N := 6) rfl ?_); refine box_event ?hg (N := 6) ?hd (cs := #[.int .i64 0, .int .i64 0, .int .i64 0, .int .i64 0, .int .i64 0]) (t := 111) ?hr ?_; (case hd => rfl); (case hg => rfl); (case hr => first | (go_simp; done) | (go_simp; rfl)); intro gb296 hg w58 hbox hb; have n0_ := Aside0.mk (Kd.R_below (by (with_reducible repeat (first | apply Kd.R_alloc | apply Kd.R_drewN | apply Kd.R_drew)); exact HO_1.out) hb); have n1_ := Aside0.mk (below_step (by repeat (first | (with_reducible first | exact HB.out | apply below_alloc | apply pw_below_drewN | apply below_drew1) | exact HB.out)) hb); have n2_ := Aside0.mk (hbox); have n3_ := Aside0.mk ((by rw [hg]; exact (below_size (by repeat (first | (with_reducible first | exact HB.out | apply below_alloc | apply pw_below_drewN | apply below_drew1) | exact HB.out))) : w.heap.size ≤ gb296)); have n4_ := Aside0.mk ((by rw [hg]; exact (below_size (by repeat (first | (with_reducible first | exact HB.out | apply below_alloc | apply pw_below_drewN | apply below_drew1) | exact HB.out))) : w.heap.size ≤ gb296)); clear HO_1; clear HB; have HO_1 := n0_; have HB := n1_; have BK296 := n2_; have GW296 := n3_; have GE296 := n4_; clear n0_ n1_ n2_ n3_ n4_; clear hb hbox hg; have hcz59_0 : w58.cell? ⟨gb296, 0, none⟩ = some (.int .i64 0) := (blk_cell BK296.out 0).trans rfl; have hcz59_1 : w58.cell? ⟨gb296, 1, none⟩ = some (.int .i64 0) := (blk_cell BK296.out 1).trans rfl; have hcz59_2 : w58.cell? ⟨gb296, 2, none⟩ = some (.int .i64 0) := (blk_cell BK296.out 2).trans rfl; have hcz59_3 : w58.cell? ⟨gb296, 3, none⟩ = some (.int .i64 0) := (blk_cell BK296.out 3).trans rfl; have hcz59_4 : w58.cell? ⟨gb296, 4, none⟩ = some (.int .i64 0) := (blk_cell BK296.out 4).trans rfl; have hfz59_0 := blk_frozen BK296.out 0; have hfz59_1 := blk_frozen BK296.out 1; have hfz59_2 := blk_frozen BK296.out 2; have hfz59_3 := blk_frozen BK296.out 3; have hfz59_4 := blk_frozen BK296.out 4) | ((with_reducible refine gate_store (t := 111) (p := 6) rfl ?_); (try (rw [drewN_self w58]; generalize hq_ : World.drewN w58 _ = w58; have n0_ := Aside0.mk (Kd.R_at hq_ HO_1.out); have n1_ := Aside0.mk (blk_at hq_ BK296.out); have n2_ := Aside0.mk (below_at hq_ HB.out); clear hq_ HO_1 BK296 HB; have HO_1 := n0_; have BK296 := n1_; have HB := n2_; clear n0_ n1_ n2_)); refine store_event (t := 111) (p := 6) (v := ?vo_w60) (w1 := (((((w58.setCell ⟨gb296, 0, none⟩ (.int .i64 ((rd_T111 l0 x13_1).f0))).setCell ⟨gb296, 1, none⟩ (.int .i64 ((rd_T111 l0 x13_1).f1))).setCell ⟨gb296, 2, none⟩ (.int .i64 ((rd_T111 l0 x13_1).f2))).setCell ⟨gb296, 3, none⟩ (.int .i64 ((rd_T111 l0 x13_1).f3))).setCell ⟨gb296, 4, none⟩ (.int .i64 ((rd_T111 l0 x13_1).f4)))) ?hg ?ho ?hn ?hr ?_; (case ho => rfl); (case hg => rfl); (case hn => rfl); (case hr => first | (go_simp; done) | (go_simp; rfl)); intro w60 hw; have n0_ : Aside0 (Kd.R (Kd.int .i64) 3 w60 w.heap.size (fun _ => True) v293 x1_1) := ⟨(by rw [hw]; exact (by (with_reducible repeat (first | apply Kd.R_alloc | apply Kd.R_drewN | apply Kd.R_drew)); exact Kd.R_mono (Kd.R_far (p := ⟨gb296, 4, none⟩) (Kd.R_far (p := ⟨gb296, 3, none⟩) (Kd.R_far (p := ⟨gb296, 2, none⟩) (Kd.R_far (p := ⟨gb296, 1, none⟩) (Kd.R_far (p := ⟨gb296, 0, none⟩) (Kd.R_types HO_1.out BK296.out (by decide)) (fun _ hk => hk.2) (.int .i64 ((rd_T111 l0 x13_1).f0))) (fun _ hk => hk.2) (.int .i64 ((rd_T111 l0 x13_1).f1))) (fun _ hk => hk.2) (.int .i64 ((rd_T111 l0 x13_1).f2))) (fun _ hk => hk.2) (.int .i64 ((rd_T111 l0 x13_1).f3))) (fun _ hk => hk.2) (.int .i64 ((rd_T111 l0 x13_1).f4))) (fun _ hk => trivial)))⟩; have n1_ : Aside0 (w60.heap[gb296]? = some (.cells #[.int .i64 ((rd_T111 l0 x13_1).f0), .int .i64 ((rd_T111 l0 x13_1).f1), .int .i64 ((rd_T111 l0 x13_1).f2), .int .i64 ((rd_T111 l0 x13_1).f3), .int .i64 ((rd_T111 l0 x13_1).f4)] 111 (0, 0))) := ⟨(by rw [hw]; exact (by (with_reducible repeat (first | refine blk_drewN ?_ _ | refine blk_drew ?_ | refine blk_alloc ?_ _)); refine blk_put (cs := #[.int .i64 ((rd_T111 l0 x13_1).f0), .int .i64 ((rd_T111 l0 x13_1).f1), .int .i64 ((rd_T111 l0 x13_1).f2), .int .i64 ((rd_T111 l0 x13_1).f3), .int .i64 0]) ?_ 4 _ rfl; (with_reducible repeat (first | refine blk_drewN ?_ _ | refine blk_drew ?_ | refine blk_alloc ?_ _)); refine blk_put (cs := #[.int .i64 ((rd_T111 l0 x13_1).f0), .int .i64 ((rd_T111 l0 x13_1).f1), .int .i64 ((rd_T111 l0 x13_1).f2), .int .i64 0, .int .i64 0]) ?_ 3 _ rfl; (with_reducible repeat (first | refine blk_drewN ?_ _ | refine blk_drew ?_ | refine blk_alloc ?_ _)); refine blk_put (cs := #[.int .i64 ((rd_T111 l0 x13_1).f0), .int .i64 ((rd_T111 l0 x13_1).f1), .int .i64 0, .int .i64 0, .int .i64 0]) ?_ 2 _ rfl; (with_reducible repeat (first | refine blk_drewN ?_ _ | refine blk_drew ?_ | refine blk_alloc ?_ _)); refine blk_put (cs := #[.int .i64 ((rd_T111 l0 x13_1).f0), .int .i64 0, .int .i64 0, .int .i64 0, .int .i64 0]) ?_ 1 _ rfl; (with_reducible repeat (first | refine blk_drewN ?_ _ | refine blk_drew ?_ | refine blk_alloc ?_ _)); refine blk_put (cs := #[.int .i64 0, .int .i64 0, .int .i64 0, .int .i64 0, .int .i64 0]) ?_ 0 _ rfl; (with_reducible repeat (first | refine blk_drewN ?_ _ | refine blk_drew ?_ | refine blk_alloc ?_ _)); exact BK296.out))⟩; have n2_ : Aside0 (Below w.heap.size w w60) := ⟨(by rw [hw]; exact (by repeat (first | (with_reducible first | exact HB.out | apply below_alloc | apply pw_below_drewN | apply below_drew1 | refine below_set ?_ GE296.out) | exact HB.out)))⟩; clear hw; clear HO_1; clear BK296; clear HB; have HO_1 := n0_; have BK296 := n1_; have HB := n2_; clear n0_ n1_ n2_; have hcz61_0 : w60.cell? ⟨gb296, 0, none⟩ = some (.int .i64 ((rd_T111 l0 x13_1).f0)) := (blk_cell BK296.out 0).trans rfl; have hcz61_1 : w60.cell? ⟨gb296, 1, none⟩ = some (.int .i64 ((rd_T111 l0 x13_1).f1)) := (blk_cell BK296.out 1).trans rfl; have hcz61_2 : w60.cell? ⟨gb296, 2, none⟩ = some (.int .i64 ((rd_T111 l0 x13_1).f2)) := (blk_cell BK296.out 2).trans rfl; have hcz61_3 : w60.cell? ⟨gb296, 3, none⟩ = some (.int .i64 ((rd_T111 l0 x13_1).f3)) := (blk_cell BK296.out 3).trans rfl; have hcz61_4 : w60.cell? ⟨gb296, 4, none⟩ = some (.int .i64 ((rd_T111 l0 x13_1).f4)) := (blk_cell BK296.out 4).trans rfl; have hfz61_0 := blk_frozen BK296.out 0; have hfz61_1 := blk_frozen BK296.out 1; have hfz61_2 := blk_frozen BK296.out 2; have hfz61_3 := blk_frozen BK296.out 3; have hfz61_4 := blk_frozen BK296.out 4; have p57 : 0 ≤ (((rd_T111 l0 x13_1).f1) : Int) := of_decide_eq_true (by first | (with_reducible assumption) | assumption); have q57 : (((rd_T111 l0 x13_1).f1) : Int) < ((x1_1.length : Int) : Int) := of_decide_eq_true (by first | (with_reducible assumption) | assumption); obtain ⟨go57, co57, eo57, gb57, gl57, cl57, HG57⟩ := Kd.R_form HO_1.out (by omega); (first | cases eo57 | (injection eo57 with ea_ en_ ec_; (first | subst ea_ | (injection ea_ with ea_; subst ea_)); subst ec_; clear en_)); have GB57 := Aside0.mk gb57; have GG57 := Aside0.mk HG57; clear gb57 gl57 HG57; obtain ⟨hx57_0, hf57_0⟩ := Kd.R_celln 0 HO_1.out (((rd_T111 l0 x13_1).f1) : Int) p57 q57; replace p57 := eq_true p57; replace q57 := eq_true q57; obtain ⟨hy62_, hz62_⟩ := Kd.R_celln 0 HO_1.out (((rd_T111 l0 x13_1).f1) : Int) (of_decide_eq_true (by first | (with_reducible assumption) | assumption)) (of_decide_eq_true (by first | (with_reducible assumption) | assumption)); have HP62 := Kd.R_putg HO_1.out (((rd_T111 l0 x13_1).f1) : Int) ((rd_T111 l0 x13_1).f4)) | ((with_reducible refine gate_store (t := 3) (p := 47) rfl ?_); (try (rw [drewN_self w60]; generalize hq_ : World.drewN w60 _ = w60; have n0_ := Aside0.mk (Kd.R_at hq_ HO_1.out); have n1_ := Aside0.mk (blk_at hq_ BK296.out); have n2_ := Aside0.mk (below_at hq_ HB.out); clear hq_ HO_1 BK296 HB; have HO_1 := n0_; have BK296 := n1_; have HB := n2_; clear n0_ n1_ n2_; (try (obtain ⟨hy62_, hz62_⟩ := Kd.R_celln 0 HO_1.out (((rd_T111 l0 x13_1).f1) : Int) (of_decide_eq_true (by first | (with_reducible assumption) | assumption)) (of_decide_eq_true (by first | (with_reducible assumption) | assumption)))); (try (have HP62 := Kd.R_putg HO_1.out (((rd_T111 l0 x13_1).f1) : Int) ((rd_T111 l0 x13_1).f4))))); refine store_event (t := 3) (p := 47) (v := ?vo_w63) (w1 := (w60.setCell ⟨go57, (((rd_T111 l0 x13_1).f1) : Int).toNat, none⟩ (.int .i64 ((rd_T111 l0 x13_1).f4)))) ?hg ?ho ?hn ?hr ?_; (case ho => rfl); (case hg => rfl); (case hn => rfl); (case hr => first | (go_simp; done) | (go_simp; rfl)); intro w63 hw; have hg : w60.grownBy w63 (some go57) := (by rw [hw]; exact HP62.2); have hp_ : Kd.R (Kd.int .i64) 3 w63 w.heap.size (fun _ => True) (.slice (some ⟨go57, 0, none⟩) x1_1.length co57) y307 := (by rw [hw, Ny307.out]; exact HP62.1); clear HP62; have n0_ := Aside0.mk (hp_); have n1_ := Aside0.mk (blk_grown (g := gb296) (o := .cells #[.int .i64 ((rd_T111 l0 x13_1).f0), .int .i64 ((rd_T111 l0 x13_1).f1), .int .i64 ((rd_T111 l0 x13_1).f2), .int .i64 ((rd_T111 l0 x13_1).f3), .int .i64 ((rd_T111 l0 x13_1).f4)] 111 (0, 0)) (by (with_reducible repeat (first | refine blk_drewN ?_ _ | refine blk_drew ?_ | refine blk_alloc ?_ _)); exact BK296.out) hg (Kd.R_ne HO_1.out BK296.out (by decide))); have n2_ := Aside0.mk ((by rw [hw]; exact below_set (HB.out) GB57.out : Below w.heap.size w w63)); clear HO_1; clear BK296; clear HB; have HO_1 := n0_; have BK296 := n1_; have HB := n2_; clear n0_ n1_ n2_; clear hg hw hp_))
                      repeat (go_quiet (first | ((with_reducible refine gate_dst (N := 6) rfl ?_); refine box_event ?hg (N := 6) ?hd (cs := #[.int .i64 0, .int .i64 0, .int .i64 0, .int .i64 0, .int .i64 0]) (t := 111) ?hr ?_; (case hd => rfl); (case hg => rfl); (case hr => first | (go_simp; done) | (go_simp; rfl)); intro gb296 hg w58 hbox hb; have n0_ := Aside0.mk (Kd.R_below (by (with_reducible repeat (first | apply Kd.R_alloc | apply Kd.R_drewN | apply Kd.R_drew)); exact HO_1.out) hb); have n1_ := Aside0.mk (below_step (by repeat (first | (with_reducible first | exact HB.out | apply below_alloc | apply pw_below_drewN | apply below_drew1) | exact HB.out)) hb); have n2_ := Aside0.mk (hbox); have n3_ := Aside0.mk ((by rw [hg]; exact (below_size (by repeat (first | (with_reducible first | exact HB.out | apply below_alloc | apply pw_below_drewN | apply below_drew1) | exact HB.out))) : w.heap.size ≤ gb296)); have n4_ := Aside0.mk ((by rw [hg]; exact (below_size (by repeat (first | (with_reducible first | exact HB.out | apply below_alloc | apply pw_below_drewN | apply below_drew1) | exact HB.out))) : w.heap.size ≤ gb296)); clear HO_1; clear HB; have HO_1 := n0_; have HB := n1_; have BK296 := n2_; have GW296 := n3_; have GE296 := n4_; clear n0_ n1_ n2_ n3_ n4_; clear hb hbox hg; have hcz59_0 : w58.cell? ⟨gb296, 0, none⟩ = some (.int .i64 0) := (blk_cell BK296.out 0).trans rfl; have hcz59_1 : w58.cell? ⟨gb296, 1, none⟩ = some (.int .i64 0) := (blk_cell BK296.out 1).trans rfl; have hcz59_2 : w58.cell? ⟨gb296, 2, none⟩ = some (.int .i64 0) := (blk_cell BK296.out 2).trans rfl; have hcz59_3 : w58.cell? ⟨gb296, 3, none⟩ = some (.int .i64 0) := (blk_cell BK296.out 3).trans rfl; have hcz59_4 : w58.cell? ⟨gb296, 4, none⟩ = some (.int .i64 0) := (blk_cell BK296.out 4).trans rfl; have hfz59_0 := blk_frozen BK296.out 0; have hfz59_1 := blk_frozen BK296.out 1; have hfz59_2 := blk_frozen BK296.out 2; have hfz59_3 := blk_frozen BK296.out 3; have hfz59_4 := blk_frozen BK296.out 4) | ((with_reducible refine gate_store (t := 111) (p := 6) rfl ?_); (try (rw [drewN_self w58]; generalize hq_ : World.drewN w58 _ = w58; have n0_ := Aside0.mk (Kd.R_at hq_ HO_1.out); have n1_ := Aside0.mk (blk_at hq_ BK296.out); have n2_ := Aside0.mk (below_at hq_ HB.out); clear hq_ HO_1 BK296 HB; have HO_1 := n0_; have BK296 := n1_; have HB := n2_; clear n0_ n1_ n2_)); refine store_event (t := 111) (p := 6) (v := ?vo_w60) (w1 := (((((w58.setCell ⟨gb296, 0, none⟩ (.int .i64 ((rd_T111 l0 x13_1).f0))).setCell ⟨gb296, 1, none⟩ (.int .i64 ((rd_T111 l0 x13_1).f1))).setCell ⟨gb296, 2, none⟩ (.int .i64 ((rd_T111 l0 x13_1).f2))).setCell ⟨gb296, 3, none⟩ (.int .i64 ((rd_T111 l0 x13_1).f3))).setCell ⟨gb296, 4, none⟩ (.int .i64 ((rd_T111 l0 x13_1).f4)))) ?hg ?ho ?hn ?hr ?_; (case ho => rfl); (case hg => rfl); (case hn => rfl); (case hr => first | (go_simp; done) | (go_simp; rfl)); intro w60 hw; have n0_ : Aside0 (Kd.R (Kd.int .i64) 3 w60 w.heap.size (fun _ => True) v293 x1_1) := ⟨(by rw [hw]; exact (by (with_reducible repeat (first | apply Kd.R_alloc | apply Kd.R_drewN | apply Kd.R_drew)); exact Kd.R_mono (Kd.R_far (p := ⟨gb296, 4, none⟩) (Kd.R_far (p := ⟨gb296, 3, none⟩) (Kd.R_far (p := ⟨gb296, 2, none⟩) (Kd.R_far (p := ⟨gb296, 1, none⟩) (Kd.R_far (p := ⟨gb296, 0, none⟩) (Kd.R_types HO_1.out BK296.out (by decide)) (fun _ hk => hk.2) (.int .i64 ((rd_T111 l0 x13_1).f0))) (fun _ hk => hk.2) (.int .i64 ((rd_T111 l0 x13_1).f1))) (fun _ hk => hk.2) (.int .i64 ((rd_T111 l0 x13_1).f2))) (fun _ hk => hk.2) (.int .i64 ((rd_T111 l0 x13_1).f3))) (fun _ hk => hk.2) (.int .i64 ((rd_T111 l0 x13_1).f4))) (fun _ hk => trivial)))⟩; have n1_ : Aside0 (w60.heap[gb296]? = some (.cells #[.int .i64 ((rd_T111 l0 x13_1).f0), .int .i64 ((rd_T111 l0 x13_1).f1), .int .i64 ((rd_T111 l0 x13_1).f2), .int .i64 ((rd_T111 l0 x13_1).f3), .int .i64 ((rd_T111 l0 x13_1).f4)] 111 (0, 0))) := ⟨(by rw [hw]; exact (by (with_reducible repeat (first | refine blk_drewN ?_ _ | refine blk_drew ?_ | refine blk_alloc ?_ _)); refine blk_put (cs := #[.int .i64 ((rd_T111 l0 x13_1).f0), .int .i64 ((rd_T111 l0 x13_1).f1), .int .i64 ((rd_T111 l0 x13_1).f2), .int .i64 ((rd_T111 l0 x13_1).f3), .int .i64 0]) ?_ 4 _ rfl; (with_reducible repeat (first | refine blk_drewN ?_ _ | refine blk_drew ?_ | refine blk_alloc ?_ _)); refine blk_put (cs := #[.int .i64 ((rd_T111 l0 x13_1).f0), .int .i64 ((rd_T111 l0 x13_1).f1), .int .i64 ((rd_T111 l0 x13_1).f2), .int .i64 0, .int .i64 0]) ?_ 3 _ rfl; (with_reducible repeat (first | refine blk_drewN ?_ _ | refine blk_drew ?_ | refine blk_alloc ?_ _)); refine blk_put (cs := #[.int .i64 ((rd_T111 l0 x13_1).f0), .int .i64 ((rd_T111 l0 x13_1).f1), .int .i64 0, .int .i64 0, .int .i64 0]) ?_ 2 _ rfl; (with_reducible repeat (first | refine blk_drewN ?_ _ | refine blk_drew ?_ | refine blk_alloc ?_ _)); refine blk_put (cs := #[.int .i64 ((rd_T111 l0 x13_1).f0), .int .i64 0, .int .i64 0, .int .i64 0, .int .i64 0]) ?_ 1 _ rfl; (with_reducible repeat (first | refine blk_drewN ?_ _ | refine blk_drew ?_ | refine blk_alloc ?_ _)); refine blk_put (cs := #[.int .i64 0, .int .i64 0, .int .i64 0, .int .i64 0, .int .i64 0]) ?_ 0 _ rfl; (with_reducible repeat (first | refine blk_drewN ?_ _ | refine blk_drew ?_ | refine blk_alloc ?_ _)); exact BK296.out))⟩; have n2_ : Aside0 (Below w.heap.size w w60) := ⟨(by rw [hw]; exact (by repeat (first | (with_reducible first | exact HB.out | apply below_alloc | apply pw_below_drewN | apply below_drew1 | refine below_set ?_ GE296.out) | exact HB.out)))⟩; clear hw; clear HO_1; clear BK296; clear HB; have HO_1 := n0_; have BK296 := n1_; have HB := n2_; clear n0_ n1_ n2_; have hcz61_0 : w60.cell? ⟨gb296, 0, none⟩ = some (.int .i64 ((rd_T111 l0 x13_1).f0)) := (blk_cell BK296.out 0).trans rfl; have hcz61_1 : w60.cell? ⟨gb296, 1, none⟩ = some (.int .i64 ((rd_T111 l0 x13_1).f1)) := (blk_cell BK296.out 1).trans rfl; have hcz61_2 : w60.cell? ⟨gb296, 2, none⟩ = some (.int .i64 ((rd_T111 l0 x13_1).f2)) := (blk_cell BK296.out 2).trans rfl; have hcz61_3 : w60.cell? ⟨gb296, 3, none⟩ = some (.int .i64 ((rd_T111 l0 x13_1).f3)) := (blk_cell BK296.out 3).trans rfl; have hcz61_4 : w60.cell? ⟨gb296, 4, none⟩ = some (.int .i64 ((rd_T111 l0 x13_1).f4)) := (blk_cell BK296.out 4).trans rfl; have hfz61_0 := blk_frozen BK296.out 0; have hfz61_1 := blk_frozen BK296.out 1; have hfz61_2 := blk_frozen BK296.out 2; have hfz61_3 := blk_frozen BK296.out 3; have hfz61_4 := blk_frozen BK296.out 4; have p57 : 0 ≤ (((rd_T111 l0 x13_1).f1) : Int) := of_decide_eq_true (by first | (with_reducible assumption) | assumption); have q57 : (((rd_T111 l0 x13_1).f1) : Int) < ((x1_1.length : Int) : Int) := of_decide_eq_true (by first | (with_reducible assumption) | assumption); obtain ⟨go57, co57, eo57, gb57, gl57, cl57, HG57⟩ := Kd.R_form HO_1.out (by omega); (first | cases eo57 | (injection eo57 with ea_ en_ ec_; (first | subst ea_ | (injection ea_ with ea_; subst ea_)); subst ec_; clear en_)); have GB57 := Aside0.mk gb57; have GG57 := Aside0.mk HG57; clear gb57 gl57 HG57; obtain ⟨hx57_0, hf57_0⟩ := Kd.R_celln 0 HO_1.out (((rd_T111 l0 x13_1).f1) : Int) p57 q57; replace p57 := eq_true p57; replace q57 := eq_true q57; obtain ⟨hy62_, hz62_⟩ := Kd.R_celln 0 HO_1.out (((rd_T111 l0 x13_1).f1) : Int) (of_decide_eq_true (by first | (with_reducible assumption) | assumption)) (of_decide_eq_true (by first | (with_reducible assumption) | assumption)); have HP62 := Kd.R_putg HO_1.out (((rd_T111 l0 x13_1).f1) : Int) ((rd_T111 l0 x13_1).f4)) | ((with_reducible refine gate_store (t := 3) (p := 47) rfl ?_); (try (rw [drewN_self w60]; generalize hq_ : World.drewN w60 _ = w60; have n0_ := Aside0.mk (Kd.R_at hq_ HO_1.out); have n1_ := Aside0.mk (blk_at hq_ BK296.out); have n2_ := Aside0.mk (below_at hq_ HB.out); clear hq_ HO_1 BK296 HB; have HO_1 := n0_; have BK296 := n1_; have HB := n2_; clear n0_ n1_ n2_; (try (obtain ⟨hy62_, hz62_⟩ := Kd.R_celln 0 HO_1.out (((rd_T111 l0 x13_1).f1) : Int) (of_decide_eq_true (by first | (with_reducible assumption) | assumption)) (of_decide_eq_true (by first | (with_reducible assumption) | assumption)))); (try (have HP62 := Kd.R_putg HO_1.out (((rd_T111 l0 x13_1).f1) : Int) ((rd_T111 l0 x13_1).f4))))); refine store_event (t := 3) (p := 47) (v := ?vo_w63) (w1 := (w60.setCell ⟨go57, (((rd_T111 l0 x13_1).f1) : Int).toNat, none⟩ (.int .i64 ((rd_T111 l0 x13_1).f4)))) ?hg ?ho ?hn ?hr ?_; (case ho => rfl); (case hg => rfl); (case hn => rfl); (case hr => first | (go_simp; done) | (go_simp; rfl)); intro w63 hw; have hg : w60.grownBy w63 (some go57) := (by rw [hw]; exact HP62.2); have hp_ : Kd.R (Kd.int .i64) 3 w63 w.heap.size (fun _ => True) (.slice (some ⟨go57, 0, none⟩) x1_1.length co57) y307 := (by rw [hw, Ny307.out]; exact HP62.1); clear HP62; have n0_ := Aside0.mk (hp_); have n1_ := Aside0.mk (blk_grown (g := gb296) (o := .cells #[.int .i64 ((rd_T111 l0 x13_1).f0), .int .i64 ((rd_T111 l0 x13_1).f1), .int .i64 ((rd_T111 l0 x13_1).f2), .int .i64 ((rd_T111 l0 x13_1).f3), .int .i64 ((rd_T111 l0 x13_1).f4)] 111 (0, 0)) (by (with_reducible repeat (first | refine blk_drewN ?_ _ | refine blk_drew ?_ | refine blk_alloc ?_ _)); exact BK296.out) hg (Kd.R_ne HO_1.out BK296.out (by decide))); have n2_ := Aside0.mk ((by rw [hw]; exact below_set (HB.out) GB57.out : Below w.heap.size w w63)); clear HO_1; clear BK296; clear HB; have HO_1 := n0_; have BK296 := n1_; have HB := n2_; clear n0_ n1_ n2_; clear hg hw hp_)); try go_wp2_with (first | ((with_reducible refine gate_dst (N := 6) rfl ?_); refine box_event ?hg (N := 6) ?hd (cs := #[.int .i64 0, .int .i64 0, .int .i64 0, .int .i64 0, .int .i64 0]) (t := 111) ?hr ?_; (case hd => rfl); (case hg => rfl); (case hr => first | (go_simp; done) | (go_simp; rfl)); intro gb296 hg w58 hbox hb; have n0_ := Aside0.mk (Kd.R_below (by (with_reducible repeat (first | apply Kd.R_alloc | apply Kd.R_drewN | apply Kd.R_drew)); exact HO_1.out) hb); have n1_ := Aside0.mk (below_step (by repeat (first | (with_reducible first | exact HB.out | apply below_alloc | apply pw_below_drewN | apply below_drew1) | exact HB.out)) hb); have n2_ := Aside0.mk (hbox); have n3_ := Aside0.mk ((by rw [hg]; exact (below_size (by repeat (first | (with_reducible first | exact HB.out | apply below_alloc | apply pw_below_drewN | apply below_drew1) | exact HB.out))) : w.heap.size ≤ gb296)); have n4_ := Aside0.mk ((by rw [hg]; exact (below_size (by repeat (first | (with_reducible first | exact HB.out | apply below_alloc | apply pw_below_drewN | apply below_drew1) | exact HB.out))) : w.heap.size ≤ gb296)); clear HO_1; clear HB; have HO_1 := n0_; have HB := n1_; have BK296 := n2_; have GW296 := n3_; have GE296 := n4_; clear n0_ n1_ n2_ n3_ n4_; clear hb hbox hg; have hcz59_0 : w58.cell? ⟨gb296, 0, none⟩ = some (.int .i64 0) := (blk_cell BK296.out 0).trans rfl; have hcz59_1 : w58.cell? ⟨gb296, 1, none⟩ = some (.int .i64 0) := (blk_cell BK296.out 1).trans rfl; have hcz59_2 : w58.cell? ⟨gb296, 2, none⟩ = some (.int .i64 0) := (blk_cell BK296.out 2).trans rfl; have hcz59_3 : w58.cell? ⟨gb296, 3, none⟩ = some (.int .i64 0) := (blk_cell BK296.out 3).trans rfl; have hcz59_4 : w58.cell? ⟨gb296, 4, none⟩ = some (.int .i64 0) := (blk_cell BK296.out 4).trans rfl; have hfz59_0 := blk_frozen BK296.out 0; have hfz59_1 := blk_frozen BK296.out 1; have hfz59_2 := blk_frozen BK296.out 2; have hfz59_3 := blk_frozen BK296.out 3; have hfz59_4 := blk_frozen BK296.out 4) | ((with_reducible refine gate_store (t := 111) (p := 6) rfl ?_); (try (rw [drewN_self w58]; generalize hq_ : World.drewN w58 _ = w58; have n0_ := Aside0.mk (Kd.R_at hq_ HO_1.out); have n1_ := Aside0.mk (blk_at hq_ BK296.out); have n2_ := Aside0.mk (below_at hq_ HB.out); clear hq_ HO_1 BK296 HB; have HO_1 := n0_; have BK296 := n1_; have HB := n2_; clear n0_ n1_ n2_)); refine store_event (t := 111) (p := 6) (v := ?vo_w60) (w1 := (((((w58.setCell ⟨gb296, 0, none⟩ (.int .i64 ((rd_T111 l0 x13_1).f0))).setCell ⟨gb296, 1, none⟩ (.int .i64 ((rd_T111 l0 x13_1).f1))).setCell ⟨gb296, 2, none⟩ (.int .i64 ((rd_T111 l0 x13_1).f2))).setCell ⟨gb296, 3, none⟩ (.int .i64 ((rd_T111 l0 x13_1).f3))).setCell ⟨gb296, 4, none⟩ (.int .i64 ((rd_T111 l0 x13_1).f4)))) ?hg ?ho ?hn ?hr ?_; (case ho => rfl); (case hg => rfl); (case hn => rfl); (case hr => first | (go_simp; done) | (go_simp; rfl)); intro w60 hw; have n0_ : Aside0 (Kd.R (Kd.int .i64) 3 w60 w.heap.size (fun _ => True) v293 x1_1) := ⟨(by rw [hw]; exact (by (with_reducible repeat (first | apply Kd.R_alloc | apply Kd.R_drewN | apply Kd.R_drew)); exact Kd.R_mono (Kd.R_far (p := ⟨gb296, 4, none⟩) (Kd.R_far (p := ⟨gb296, 3, none⟩) (Kd.R_far (p := ⟨gb296, 2, none⟩) (Kd.R_far (p := ⟨gb296, 1, none⟩) (Kd.R_far (p := ⟨gb296, 0, none⟩) (Kd.R_types HO_1.out BK296.out (by decide)) (fun _ hk => hk.2) (.int .i64 ((rd_T111 l0 x13_1).f0))) (fun _ hk => hk.2) (.int .i64 ((rd_T111 l0 x13_1).f1))) (fun _ hk => hk.2) (.int .i64 ((rd_T111 l0 x13_1).f2))) (fun _ hk => hk.2) (.int .i64 ((rd_T111 l0 x13_1).f3))) (fun _ hk => hk.2) (.int .i64 ((rd_T111 l0 x13_1).f4))) (fun _ hk => trivial)))⟩; have n1_ : Aside0 (w60.heap[gb296]? = some (.cells #[.int .i64 ((rd_T111 l0 x13_1).f0), .int .i64 ((rd_T111 l0 x13_1).f1), .int .i64 ((rd_T111 l0 x13_1).f2), .int .i64 ((rd_T111 l0 x13_1).f3), .int .i64 ((rd_T111 l0 x13_1).f4)] 111 (0, 0))) := ⟨(by rw [hw]; exact (by (with_reducible repeat (first | refine blk_drewN ?_ _ | refine blk_drew ?_ | refine blk_alloc ?_ _)); refine blk_put (cs := #[.int .i64 ((rd_T111 l0 x13_1).f0), .int .i64 ((rd_T111 l0 x13_1).f1), .int .i64 ((rd_T111 l0 x13_1).f2), .int .i64 ((rd_T111 l0 x13_1).f3), .int .i64 0]) ?_ 4 _ rfl; (with_reducible repeat (first | refine blk_drewN ?_ _ | refine blk_drew ?_ | refine blk_alloc ?_ _)); refine blk_put (cs := #[.int .i64 ((rd_T111 l0 x13_1).f0), .int .i64 ((rd_T111 l0 x13_1).f1), .int .i64 ((rd_T111 l0 x13_1).f2), .int .i64 0, .int .i64 0]) ?_ 3 _ rfl; (with_reducible repeat (first | refine blk_drewN ?_ _ | refine blk_drew ?_ | refine blk_alloc ?_ _)); refine blk_put (cs := #[.int .i64 ((rd_T111 l0 x13_1).f0), .int .i64 ((rd_T111 l0 x13_1).f1), .int .i64 0, .int .i64 0, .int .i64 0]) ?_ 2 _ rfl; (with_reducible repeat (first | refine blk_drewN ?_ _ | refine blk_drew ?_ | refine blk_alloc ?_ _)); refine blk_put (cs := #[.int .i64 ((rd_T111 l0 x13_1).f0), .int .i64 0, .int .i64 0, .int .i64 0, .int .i64 0]) ?_ 1 _ rfl; (with_reducible repeat (first | refine blk_drewN ?_ _ | refine blk_drew ?_ | refine blk_alloc ?_ _)); refine blk_put (cs := #[.int .i64 0, .int .i64 0, .int .i64 0, .int .i64 0, .int .i64 0]) ?_ 0 _ rfl; (with_reducible repeat (first | refine blk_drewN ?_ _ | refine blk_drew ?_ | refine blk_alloc ?_ _)); exact BK296.out))⟩; have n2_ : Aside0 (Below w.heap.size w w60) := ⟨(by rw [hw]; exact (by repeat (first | (with_reducible first | exact HB.out | apply below_alloc | apply pw_below_drewN | apply below_drew1 | refine below_set ?_ GE296.out) | exact HB.out)))⟩; clear hw; clear HO_1; clear BK296; clear HB; have HO_1 := n0_; have BK296 := n1_; have HB := n2_; clear n0_ n1_ n2_; have hcz61_0 : w60.cell? ⟨gb296, 0, none⟩ = some (.int .i64 ((rd_T111 l0 x13_1).f0)) := (blk_cell BK296.out 0).trans rfl; have hcz61_1 : w60.cell? ⟨gb296, 1, none⟩ = some (.int .i64 ((rd_T111 l0 x13_1).f1)) := (blk_cell BK296.out 1).trans rfl; have hcz61_2 : w60.cell? ⟨gb296, 2, none⟩ = some (.int .i64 ((rd_T111 l0 x13_1).f2)) := (blk_cell BK296.out 2).trans rfl; have hcz61_3 : w60.cell? ⟨gb296, 3, none⟩ = some (.int .i64 ((rd_T111 l0 x13_1).f3)) := (blk_cell BK296.out 3).trans rfl; have hcz61_4 : w60.cell? ⟨gb296, 4, none⟩ = some (.int .i64 ((rd_T111 l0 x13_1).f4)) := (blk_cell BK296.out 4).trans rfl; have hfz61_0 := blk_frozen BK296.out 0; have hfz61_1 := blk_frozen BK296.out 1; have hfz61_2 := blk_frozen BK296.out 2; have hfz61_3 := blk_frozen BK296.out 3; have hfz61_4 := blk_frozen BK296.out 4; have p57 : 0 ≤ (((rd_T111 l0 x13_1).f1) : Int) := of_decide_eq_true (by first | (with_reducible assumption) | assumption); have q57 : (((rd_T111 l0 x13_1).f1) : Int) < ((x1_1.length : Int) : Int) := of_decide_eq_true (by first | (with_reducible assumption) | assumption); obtain ⟨go57, co57, eo57, gb57, gl57, cl57, HG57⟩ := Kd.R_form HO_1.out (by omega); (first | cases eo57 | (injection eo57 with ea_ en_ ec_; (first | subst ea_ | (injection ea_ with ea_; subst ea_)); subst ec_; clear en_)); have GB57 := Aside0.mk gb57; have GG57 := Aside0.mk HG57; clear gb57 gl57 HG57; obtain ⟨hx57_0, hf57_0⟩ := Kd.R_celln 0 HO_1.out (((rd_T111 l0 x13_1).f1) : Int) p57 q57; replace p57 := eq_true p57; replace q57 := eq_true q57; obtain ⟨hy62_, hz62_⟩ := Kd.R_celln 0 HO_1.out (((rd_T111 l0 x13_1).f1) : Int) (of_decide_eq_true (by first | (with_reducible assumption) | assumption)) (of_decide_eq_true (by first | (with_reducible assumption) | assumption)); have HP62 := Kd.R_putg HO_1.out (((rd_T111 l0 x13_1).f1) : Int) ((rd_T111 l0 x13_1).f4)) | ((with_reducible refine gate_store (t := 3) (p := 47) rfl ?_); (try (rw [drewN_self w60]; generalize hq_ : World.drewN w60 _ = w60; have n0_ := Aside0.mk (Kd.R_at hq_ HO_1.out); have n1_ := Aside0.mk (blk_at hq_ BK296.out); have n2_ := Aside0.mk (below_at hq_ HB.out); clear hq_ HO_1 BK296 HB; have HO_1 := n0_; have BK296 := n1_; have HB := n2_; clear n0_ n1_ n2_; (try (obtain ⟨hy62_, hz62_⟩ := Kd.R_celln 0 HO_1.out (((rd_T111 l0 x13_1).f1) : Int) (of_decide_eq_true (by first | (with_reducible assumption) | assumption)) (of_decide_eq_true (by first | (with_reducible assumption) | assumption)))); (try (have HP62 := Kd.R_putg HO_1.out (((rd_T111 l0 x13_1).f1) : Int) ((rd_T111 l0 x13_1).f4))))); refine store_event (t := 3) (p := 47) (v := ?vo_w63) (w1 := (w60.setCell ⟨go57, (((rd_T111 l0 x13_1).f1) : Int).toNat, none⟩ (.int .i64 ((rd_T111 l0 x13_1).f4)))) ?hg ?ho ?hn ?hr ?_; (case ho => rfl); (case hg => rfl); (case hn => rfl); (case hr => first | (go_simp; done) | (go_simp; rfl)); intro w63 hw; have hg : w60.grownBy w63 (some go57) := (by rw [hw]; exact HP62.2); have hp_ : Kd.R (Kd.int .i64) 3 w63 w.heap.size (fun _ => True) (.slice (some ⟨go57, 0, none⟩) x1_1.length co57) y307 := (by rw [hw, Ny307.out]; exact HP62.1); clear HP62; have n0_ := Aside0.mk (hp_); have n1_ := Aside0.mk (blk_grown (g := gb296) (o := .cells #[.int .i64 ((rd_T111 l0 x13_1).f0), .int .i64 ((rd_T111 l0 x13_1).f1), .int .i64 ((rd_T111 l0 x13_1).f2), .int .i64 ((rd_T111 l0 x13_1).f3), .int .i64 ((rd_T111 l0 x13_1).f4)] 111 (0, 0)) (by (with_reducible repeat (first | refine blk_drewN ?_ _ | refine blk_drew ?_ | refine blk_alloc ?_ _)); exact BK296.out) hg (Kd.R_ne HO_1.out BK296.out (by decide))); have n2_ := Aside0.mk ((by rw [hw]; exact below_set (HB.out) GB57.out : Below w.heap.size w w63)); clear HO_1; clear BK296; clear HB; have HO_1 := n0_; have BK296 := n1_; have HB := n2_; clear n0_ n1_ n2_; clear hg hw hp_)))
                      go_roundg k1
                      case measure => have := HK1.out; omega
                      case rel => exact ⟨(y307), (wrap64 (x13_1 + 1)), (by first | rfl | (simp; done) | (simp [*]; done)), H', ⟨by have := HK1.out; omega⟩, ⟨by (with_reducible repeat (first | apply Kd.R_alloc | apply Kd.R_drewN | apply Kd.R_drew)); exact HO_1.out⟩, ⟨by repeat (first | (with_reducible first | exact HB.out | apply below_alloc | apply pw_below_drewN | apply below_drew1 | refine below_set ?_ GE296.out) | exact HB.out)⟩⟩
                    · rw [if_neg c56] at H
                      exact absurd H (by simp)
                  · rw [if_neg c55] at H
                    exact absurd H (by simp)
            · rw [if_neg c9] at H
              exact absurd H (by simp)
          · rw [if_neg c8] at H
            exact absurd H (by simp)
        · rw [if_neg c7] at H
          have c7b0 : decide (x13_1 < (l0.length : Int)) = false := decide_eq_false c7
          clear c7
          obtain rfl := Option.some.inj H
          go_wp2
          repeat (go_quiet (fail); try go_wp2)
          go_ret
          exact ⟨_, by first | rfl | (simp [errW_none, errW_some] <;> rfl) | (simp [*, errW_none, errW_some] <;> rfl), by (with_reducible repeat (first | apply Kd.R_alloc | apply Kd.R_drewN | apply Kd.R_drew)); exact HO_1.out, by repeat (first | (with_reducible first | exact HB.out | apply below_alloc | apply pw_below_drewN | apply below_drew1) | exact HB.out)⟩
  · rw [if_neg c3] at H
    exact absurd H (by simp)
end Go.Proofs.Ytaicamjpcnhjcaa.PA
