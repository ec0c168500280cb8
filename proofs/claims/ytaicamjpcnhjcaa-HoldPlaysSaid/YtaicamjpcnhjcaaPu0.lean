/- Rounds: small lemmas for what a printed function comes to, with enough rounds. -/
import Derived.Test.YtaicamjpcnhjcaaPA1
namespace Go.Proofs.Ytaicamjpcnhjcaa.PA
open Go.RowKit Go.Proofs.YtaicamjpcnhjcaaW.PrintWords Go.Proofs.YtaicamjpcnhjcaaW.PrintLast
set_option linter.unusedVariables false
set_option linter.unusedSimpArgs false

theorem ev_succ {α : Type} {g : Nat → Option α} {r : α} (h : Ev (fun k => g (k + 1)) r) : Ev g r := by
  obtain ⟨K, h⟩ := h
  exact ⟨K + 1, fun k hk => by
    obtain ⟨m, rfl⟩ : ∃ m, k = m + 1 := ⟨k - 1, by omega⟩
    exact h m (by omega)⟩
theorem ev_ite {α : Type} {c : Prop} [Decidable c] {g f : Nat → Option α} {r : α} (h : c → Ev g r) (k : ¬ c → Ev f r) : Ev (fun n => if c then g n else f n) r := by
  by_cases hc : c
  · simp only [if_pos hc]; exact h hc
  · simp only [if_neg hc]; exact k hc
theorem ev_pos {α : Type} {c : Prop} [Decidable c] {g f : Nat → Option α} {r : α} (hc : c) (h : Ev g r) : Ev (fun n => if c then g n else f n) r := by simp only [if_pos hc]; exact h
theorem ev_neg {α : Type} {c : Prop} [Decidable c] {g f : Nat → Option α} {r : α} (hc : ¬ c) (h : Ev f r) : Ev (fun n => if c then g n else f n) r := by simp only [if_neg hc]; exact h
theorem ev_some {α : Type} {a r : α} (h : a = r) : Ev (fun _ => some a) r := by rw [h]; exact Ev.now r
theorem ev_eq {α : Type} {g : Nat → Option α} {a r : α} (h : Ev g a) (e : a = r) : Ev g r := e ▸ h
theorem ev_none {α : Type} {r : α} (h : False) : Ev (fun _ => (none : Option α)) r := h.elim
theorem ev_const {α : Type} {a : Option α} {r : α} (h : a = some r) : Ev (fun _ => a) r := ⟨0, fun _ _ => h⟩
/-- From the end on down. -/
theorem down_ind {n : Nat} {P : Nat → Prop} (h0 : P n) (hs : ∀ i, i < n → P (i + 1) → P i) : ∀ i, i ≤ n → P i := by
  have key : ∀ d i, i + d = n → P i := by
    intro d
    induction d with
    | zero => intro i hi; obtain rfl : i = n := by omega
              exact h0
    | succ d ih => intro i hi; exact hs i (by omega) (ih (i + 1) (by omega))
  intro i hi
  exact key (n - i) i (by omega)
theorem rd_nat (l : List Int) (i : Nat) : rd l (i : Int) = l.getD i 0 := rfl
theorem rdT111_nat (l : List S111) (i : Nat) : rd_T111 l (i : Int) = l.getD i z111 := rfl
theorem rdT79_nat (l : List S79) (i : Nat) : rd_T79 l (i : Int) = l.getD i z79 := rfl
theorem rdT159_nat (l : List S159) (i : Nat) : rd_T159 l (i : Int) = l.getD i z159 := rfl
theorem rdT161_nat (l : List S161) (i : Nat) : rd_T161 l (i : Int) = l.getD i z161 := rfl
theorem rdT127_nat (l : List S127) (i : Nat) : rd_T127 l (i : Int) = l.getD i z127 := rfl
theorem wrap_in {x : Int} (h1 : -9223372036854775808 ≤ x) (h2 : x ≤ 9223372036854775807) : wrap64 x = x := by unfold wrap64; omega
theorem wrap_nat {i n : Nat} (h : i < n) (hn : n ≤ 9223372036854775807) : wrap64 ((i : Int) + 1) = ((i + 1 : Nat) : Int) := by unfold wrap64; omega
end Go.Proofs.Ytaicamjpcnhjcaa.PA
