/- The plain statement behind ShapeChecks: both checks of shapes find the same. -/
import Derived.Test.YtaicamjpcnhjcaaPA10
import Derived.Test.YtaicamjpcnhjcaaPu4
namespace Go.Proofs.Ytaicamjpcnhjcaa.Pure
open Go.RowKit Go.Proofs.Ytaicamjpcnhjcaa.PA Go.Proofs.YtaicamjpcnhjcaaW.PrintWords Go.Proofs.YtaicamjpcnhjcaaW.PrintLast
set_option linter.unusedVariables false

theorem ShapeChecks_pure (a0 : Int) (l1 : List S127) (w0 : (Lit.int .i64 a0).wf = true) (hg1 : ∀ y ∈ l1, good127 y) (y1 : l1.length * 88 ≤ 140737488351232) : ∃ k, codemasonlaw_ShapeChecks.f k a0 l1 = some true := by
  obtain ⟨r, h1, h2, _⟩ := shapeCheck_ev a0 l1 hg1 y1
  refine Ev.rounds (r := true) ?_
  unfold codemasonlaw_ShapeChecks.f
  exact Ev.bind h1 (Ev.bind h2 (ev_some (by simp)))

end Go.Proofs.Ytaicamjpcnhjcaa.Pure
