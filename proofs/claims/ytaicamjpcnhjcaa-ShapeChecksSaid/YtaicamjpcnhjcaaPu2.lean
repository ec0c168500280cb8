/- The document's checks of steps, programs and values: what they come to; a program's check is the program's own. -/
import Derived.Test.YtaicamjpcnhjcaaPu3
import Derived.Test.YtaicamjpcnhjcaaPA22
import Derived.Test.YtaicamjpcnhjcaaPA33
import Derived.Test.YtaicamjpcnhjcaaPA76
namespace Go.Proofs.Ytaicamjpcnhjcaa.PA
open Go.RowKit Go.Proofs.YtaicamjpcnhjcaaW.PrintWords Go.Proofs.YtaicamjpcnhjcaaW.PrintLast
set_option linter.unusedVariables false
set_option linter.unusedSimpArgs false

theorem insB_eq (v i : Int) : insB v i = decide (0 ≤ i ∧ i < v) := by simp [insB]
theorem stepCheck_ev (v op c a b x : Int) : Ev (fun k => codemasonref_StepCheck.f k v v op c a b x) (stepE v op c a b x) := by
  unfold codemasonref_StepCheck.f
  have h1 : ∀ q : Bool, Ev (fun k => codemasonref_StepCheck.j1 k v q op c a b x) (if q = true then 4 else if insB v c = false ∨ op > 2 ∧ (insB v a = false ∨ insB v b = false) then 2 else 0) := fun q => by
    refine ev_succ ?_
    simp only [codemasonref_StepCheck.j1]
    refine ev_ite (fun h => ev_some (by rw [if_pos h])) (fun h => Ev.bind (inside1_ev _ _) (ev_ite (fun h2 => ev_ite (fun h3 => Ev.bind (inside2_ev _ _ _) (ev_ite (fun h4 => ev_some ?_) (fun h4 => ev_some ?_))) (fun h3 => ev_some ?_)) (fun h2 => ev_some ?_)))
    all_goals (simp only [insB_eq]; grind)
  have h0 : ∀ q : Bool, Ev (fun k => codemasonref_StepCheck.j0 k v v q op c a b x) (if q = true then 6 else if op = 1 ∧ (x < 0 ∨ x > 255) ∨ op = 2 ∧ insB v x = false then 4 else if insB v c = false ∨ op > 2 ∧ (insB v a = false ∨ insB v b = false) then 2 else 0) := fun q => by
    refine ev_succ ?_
    simp only [codemasonref_StepCheck.j0, value_eq, Option.bind_some]
    refine ev_ite (fun h => ev_some (by rw [if_pos h])) (fun h => ev_ite (fun h2 => ev_ite (fun h3 => ev_ite (fun h4 => absurd h4 (by omega)) (fun h4 => ev_eq (h1 _) ?_)) (fun h3 => ev_eq (h1 _) ?_)) (fun h2 => ev_ite (fun h3 => Ev.bind (inside1_ev _ _) (ev_eq (h1 _) ?_)) (fun h3 => ev_eq (h1 _) ?_)))
    all_goals (simp only [insB_eq]; grind)
  refine ev_ite (fun h => ev_eq (h0 _) ?_) (fun h => ev_eq (h0 _) ?_)
  all_goals (simp only [stepE]; grind)
theorem stepsErr_at' (v : Int) {l : List S111} {j : Nat} (h : j < l.length) : stepsErr v (l.drop j) = if stepE v (rd_T111 l j).f0 (rd_T111 l j).f1 (rd_T111 l j).f2 (rd_T111 l j).f3 (rd_T111 l j).f4 ≠ 0 then stepE v (rd_T111 l j).f0 (rd_T111 l j).f1 (rd_T111 l j).f2 (rd_T111 l j).f3 (rd_T111 l j).f4 else stepsErr v (l.drop (j + 1)) := stepsErr_at v h
theorem blocksErr_at' (v n : Int) {l : List S79} {j : Nat} (h : j < l.length) : blocksErr v n (l.drop j) = if blockErr v n (rd_T79 l j) ≠ 0 then blockErr v n (rd_T79 l j) else blocksErr v n (l.drop (j + 1)) := blocksErr_at v n h
theorem manyOf_at {l : List S79} {j : Nat} (h : j < l.length) (m : Int) : manyOf (l.drop j) m = manyOf (l.drop (j + 1)) (wrap64 (m + (rd_T79 l j).f0.length)) := by rw [drop_at z79 h]; rfl

theorem progCheck_ev (v : Int) (l : List S79) (hl : l.length ≤ 9223372036854775807) (hc : ∀ b ∈ l, b.f0.length ≤ 9223372036854775807) : Ev (fun k => codemasonref_ProgCheck.f k v l) (blockCheck v l) := by
  have key := down_ind (n := l.length) (P := fun i => 1 ≤ v → Ev (fun k => codemasonref_ProgCheck.l1 k v l l l.length i) (blocksErr v l.length (l.drop i))) ?_ ?_ 0 (by omega)
  · have h1 : v < 1 ∨ v > 6 ∨ l.length < 1 ∨ l.length > 8 ∨ manyOf l 0 > 20 → Ev (fun k => codemasonref_ProgCheck.j1 k v l true) (blockCheck v l) := fun h => by
      refine ev_succ ?_
      simp only [codemasonref_ProgCheck.j1, if_true]
      exact ev_some (by rw [blockCheck, if_pos h])
    have first := down_ind (n := l.length) (P := fun i => ∀ m, manyOf (l.drop i) m = manyOf l 0 → Ev (fun k => codemasonref_ProgCheck.l0 k v l m l l.length i) (blockCheck v l)) ?_ ?_ 0 (by omega)
    · exact first 0 rfl
    · intro m hm
      rw [List.drop_length, manyOf] at hm
      subst hm
      refine ev_succ ?_
      simp only [codemasonref_ProgCheck.l0]
      refine ev_neg (by omega) (ev_ite (fun h => h1 (by omega)) (fun h => ev_ite (fun h2 => h1 (by omega)) (fun h2 => ev_ite (fun h3 => h1 (by omega)) (fun h3 => ev_ite (fun h4 => h1 (by omega)) (fun h4 => ?_)))))
      refine ev_succ ?_
      simp only [codemasonref_ProgCheck.j1, decide_eq_true_eq]
      exact ev_ite (fun h5 => ev_some (by rw [blockCheck, if_pos (by omega)])) (fun h5 => ev_eq (key (by omega)) (by rw [blockCheck, if_neg (by omega)]; rfl))
    · intro i hi ih m hm
      rw [manyOf_at hi] at hm
      refine ev_succ ?_
      simp only [codemasonref_ProgCheck.l0, wrap_nat hi hl]
      exact ev_pos (by omega) (ev_pos (by omega) (ev_pos (by omega) (ih _ hm)))
  · intro hv
    refine ev_succ ?_
    simp only [codemasonref_ProgCheck.l1, List.drop_length]
    exact ev_neg (by omega) (Ev.now _)
  · intro i hi ih hv
    replace ih := ih hv
    have hcl : (rd_T79 l i).f0.length ≤ 9223372036854775807 := hc _ (by rw [rdT79_nat, List.getD_eq_getElem?_getD, List.getElem?_eq_getElem hi]; exact List.getElem_mem hi)
    refine ev_succ ?_
    simp only [codemasonref_ProgCheck.l1, blocksErr_at' v l.length hi]
    refine ev_pos (by omega) (ev_pos (by omega) (ev_pos (by omega) ?_))
    generalize rd_T79 l i = b at hcl
    have h5 : ∀ q : Bool, Ev (fun k => codemasonref_ProgCheck.j5 k v l l l.length i q b.f0 b.f1 b.f2 b.f3) (if q = true then 3 else if b.f1 ≥ 0 ∧ ¬ ((0 ≤ b.f2 ∧ b.f2 < l.length) ∧ 0 ≤ b.f3 ∧ b.f3 < l.length) then 3 else blocksErr v l.length (l.drop (i + 1))) := fun q => by
      refine ev_succ ?_
      simp only [codemasonref_ProgCheck.j5, wrap_nat hi hl]
      refine ev_ite (fun h => ev_some (by rw [if_pos h])) (fun h => ev_ite (fun h2 => Ev.bind (inside2_ev _ _ _) (ev_ite (fun h3 => ev_eq ih ?_) (fun h3 => ev_some ?_))) (fun h2 => ev_eq ih ?_))
      all_goals grind
    have h4 : ∀ q : Bool, Ev (fun k => codemasonref_ProgCheck.j4 k v l l l.length i q b.f0 b.f1 b.f2 b.f3) (if q = true then 2 else if b.f1 = -1 ∧ b.f2 ≠ -1 ∧ ¬ (0 ≤ b.f2 ∧ b.f2 < l.length) ∨ b.f1 ≥ 0 ∧ ¬ ((0 ≤ b.f2 ∧ b.f2 < l.length) ∧ 0 ≤ b.f3 ∧ b.f3 < l.length) then 3 else blocksErr v l.length (l.drop (i + 1))) := fun q => by
      refine ev_succ ?_
      simp only [codemasonref_ProgCheck.j4]
      refine ev_ite (fun h => ev_some (by rw [if_pos h])) (fun h => ev_ite (fun h2 => ev_ite (fun h3 => ev_eq (h5 _) ?_) (fun h3 => Ev.bind (inside1_ev _ _) (ev_eq (h5 _) ?_))) (fun h2 => ev_eq (h5 _) ?_))
      all_goals grind
    have inner := down_ind (n := b.f0.length) (P := fun j => stepsErr v b.f0 = stepsErr v (b.f0.drop j) → Ev (fun k => codemasonref_ProgCheck.l2 k v l l l.length i b.f0 b.f0.length j b.f0 b.f1 b.f2 b.f3) (if blockErr v l.length b ≠ 0 then blockErr v l.length b else blocksErr v l.length (l.drop (i + 1)))) ?_ ?_ 0 (by omega)
    · exact inner rfl
    · intro hs
      rw [List.drop_length] at hs
      have hs0 : stepsErr v b.f0 = 0 := hs
      refine ev_succ ?_
      simp only [codemasonref_ProgCheck.l2, blockErr, hs0]
      refine ev_neg (by omega) (ev_ite (fun h => ev_eq (h4 _) ?_) (fun h => Ev.bind (inside1_ev _ _) (ev_eq (h4 _) ?_)))
      all_goals (simp only [insB_eq]; grind)
    · intro j hj ih2 hs
      rw [stepsErr_at' v hj] at hs
      refine ev_succ ?_
      simp only [codemasonref_ProgCheck.l2, wrap_nat hj hcl]
      refine ev_pos (by omega) (ev_pos (by omega) (ev_pos (by omega) (Ev.bind (stepCheck_ev _ _ _ _ _ _) (ev_ite (fun h => ih2 ?_) (fun h => ev_some ?_)))))
      · rw [hs, if_neg (by simpa using h)]
      · rw [if_pos h] at hs
        have hb : blockErr v l.length b = stepsErr v b.f0 := by unfold blockErr; rw [if_pos (by rw [hs]; exact h)]
        rw [hb, hs, if_pos h]

/-- What is wrong with values. -/
def haveErr (v : Int) (l : List Int) : Int := if (l.length : Int) ≠ v then 3 else if (l.all fun x => decide (0 ≤ x ∧ x ≤ 255)) = true then 0 else 4
theorem haveCheck_ev (v : Int) (l : List Int) (hl : l.length ≤ 9223372036854775807) : Ev (fun k => codemasonref_HaveCheck.f k v l) (haveErr v l) := by
  have key := down_ind (n := l.length) (P := fun i => Ev (fun k => codemasonref_HaveCheck.l0 k l l.length i) (if ((l.drop i).all fun x => decide (0 ≤ x ∧ x ≤ 255)) = true then 0 else 4)) ?_ ?_ 0 (by omega)
  · unfold codemasonref_HaveCheck.f haveErr
    exact ev_ite (fun h => ev_eq key (by rw [if_neg (c := ((l.length : Int) ≠ v)) (by omega), List.drop_zero])) (fun h => ev_some (by rw [if_pos h]))
  · refine ev_succ ?_
    simp only [codemasonref_HaveCheck.l0, List.drop_length]
    exact ev_neg (by omega) (Ev.now _)
  · intro i hi ih
    refine ev_succ ?_
    simp only [codemasonref_HaveCheck.l0, wrap_nat hi hl, drop_at 0 hi, List.all_cons, ← rd_nat, value_eq, Option.bind_some]
    generalize rd l i = x
    refine ev_pos (by omega) (ev_pos (by omega) (ev_pos (by omega) (ev_ite (fun h => ev_eq ih ?_) (fun h => ev_some ?_))))
    · rw [h, Bool.true_and]
    · rw [Bool.not_eq_true] at h; rw [h]; rfl
end Go.Proofs.Ytaicamjpcnhjcaa.PA
