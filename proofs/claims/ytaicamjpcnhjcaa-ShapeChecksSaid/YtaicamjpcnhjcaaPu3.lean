/- Numbers from 0 to below n, values: what the document's small checks come to. -/
import Derived.Test.YtaicamjpcnhjcaaPu0
import Derived.Test.YtaicamjpcnhjcaaPA52
import Derived.Test.YtaicamjpcnhjcaaPA82
namespace Go.Proofs.Ytaicamjpcnhjcaa.PA
open Go.RowKit Go.Proofs.YtaicamjpcnhjcaaW.PrintWords Go.Proofs.YtaicamjpcnhjcaaW.PrintLast
set_option linter.unusedVariables false
set_option linter.unusedSimpArgs false

theorem inside_ev (n : Int) (l : List Int) (hl : l.length ≤ 9223372036854775807) : Ev (fun k => codemasonref_Inside.f k n l) (l.all fun x => decide (0 ≤ x) && decide (x < n)) := by
  unfold codemasonref_Inside.f
  have key := down_ind (n := l.length) (P := fun i => Ev (fun k => codemasonref_Inside.l0 k n l l.length i) ((l.drop i).all fun x => decide (0 ≤ x) && decide (x < n))) ?_ ?_ 0 (by omega)
  · exact key
  · refine ev_succ ?_
    simp only [codemasonref_Inside.l0, List.drop_length]
    exact ev_neg (by omega) (Ev.now _)
  · intro i hi ih
    refine ev_succ ?_
    simp only [codemasonref_Inside.l0, wrap_nat hi hl, drop_at 0 hi, List.all_cons, ← rd_nat]
    refine ev_pos (by omega) (ev_pos (by omega) (ev_pos (by omega) ?_))
    generalize rd l i = x
    refine ev_ite (fun h => ev_some ?_) (fun h => ev_ite (fun h2 => ev_some ?_) (fun h2 => ev_eq ih ?_))
    · rw [decide_eq_false (by omega)]; rfl
    · rw [decide_eq_false (show ¬ x < n by omega), Bool.and_false]; rfl
    · rw [decide_eq_true (show 0 ≤ x by omega), decide_eq_true (show x < n by omega)]; rfl
theorem inside1_ev (n x : Int) : Ev (fun k => codemasonref_Inside.f k n [x]) (decide (0 ≤ x ∧ x < n)) := ev_eq (inside_ev n [x] (by simp)) (by simp)
theorem inside2_ev (n x y : Int) : Ev (fun k => codemasonref_Inside.f k n [x, y]) (decide ((0 ≤ x ∧ x < n) ∧ 0 ≤ y ∧ y < n)) := ev_eq (inside_ev n [x, y] (by simp)) (by simp)
theorem value_eq (x : Int) : codemasonref_Value.f x = some (decide (0 ≤ x ∧ x ≤ 255)) := by
  unfold codemasonref_Value.f
  split <;> simp <;> omega

end Go.Proofs.Ytaicamjpcnhjcaa.PA
