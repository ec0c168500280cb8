/- block.step of the translation: what the machine's call comes to. -/
import Derived.Test.YtaicamjpcnhjcaaPA1
namespace Go.Proofs.Ytaicamjpcnhjcaa.PA
open Go.RowKit Go.Proofs.YtaicamjpcnhjcaaW.PrintWords Go.Proofs.YtaicamjpcnhjcaaW.PrintLast Go.Proofs.YtaicamjpcnhjcaaW.PrintMore
set_option linter.unusedVariables false
set_option linter.unusedSimpArgs false

/-- Is i from 0 to below v? -/
def insB (v i : Int) : Bool := decide (0 ≤ i) && decide (i < v)

set_option maxHeartbeats 400000 in
theorem block_step_1.calls (i v : Int) (p : Addr) (w : World) (hp : w.cell? p = some (.int .i64 v)) :
    Calls Try.prog 176 #[.int .i64 i, .pointer (some p)] w fun e w' => e = .returned (.bool (insB v i)) ∧ w = w' := by
  by_cases h : 0 ≤ i
  all_goals
    go_enter Try.func176, Try.ntmps176
    go_wp2
    go_ret
    exact ⟨by simp [insB, h] <;> omega, rfl⟩

/-- What is wrong with a step. -/
def stepE (v op c a b x : Int) : Int :=
  if op < 1 ∨ op > 6 then 6
  else if op = 1 ∧ (x < 0 ∨ x > 255) ∨ op = 2 ∧ insB v x = false then 4
  else if insB v c = false ∨ op > 2 ∧ (insB v a = false ∨ insB v b = false) then 2
  else 0
def block_step.f (a0 a1_0 a1_1 a1_2 a1_3 a1_4 : Int) : Option Int := some (stepE a0 a1_0 a1_1 a1_2 a1_3 a1_4)

set_option maxHeartbeats 4000000 in
theorem block_step.calls (a0 a1_0 a1_1 a1_2 a1_3 a1_4 : Int) (r : Int) (w : World) (h : block_step.f a0 a1_0 a1_1 a1_2 a1_3 a1_4 = some r) :
    Calls Try.prog 150 #[.int .i64 a0, .agg #[.int .i64 a1_0, .int .i64 a1_1, .int .i64 a1_2, .int .i64 a1_3, .int .i64 a1_4]] w fun e w' => e = .returned (.int .i64 r) ∧ Below w.heap.size w w' := by
  have H := Aside0.mk h
  clear h
  have hmf : ∀ (fn : Fn) (first cap : Array Value) (w : World), (Instr.makeFunc fn first cap).run Try.prog w = .ok (.func fn first cap) w := fun _ _ _ _ => rfl
  go_enter Try.func150, Try.ntmps150
  go_wp2_with (go_at_call 176; refine (block_step_1.calls _ a0 _ _ (by simp [go_sem])).mono ?_; rintro e w' ⟨rfl, rfl⟩)
  all_goals
    go_ret
    refine ⟨ret_int ?_, ?_⟩
    · have h := H.out
      clear H hmf
      simp only [block_step.f, stepE, Option.some.injEq] at h
      grind
    · exact ((Below.refl _ _).alloc (Nat.le_refl _) _).alloc (by simp) _
end Go.Proofs.Ytaicamjpcnhjcaa.PA
