/- The plain statement behind HoldPlays: the program's play and the document's come to the same. -/
import Derived.Test.YtaicamjpcnhjcaaPA6
import Derived.Test.YtaicamjpcnhjcaaPA2
namespace Go.Proofs.Ytaicamjpcnhjcaa.Pure
open Go.RowKit Go.Proofs.Ytaicamjpcnhjcaa.PA Go.Proofs.YtaicamjpcnhjcaaW.PrintWords Go.Proofs.YtaicamjpcnhjcaaW.PrintLast
set_option linter.unusedVariables false

theorem ix_mem {x : Int} : ∀ {l : List Int}, ix x l ≥ 0 ↔ x ∈ l
  | [] => by simp [ix]
  | y :: t => by
    have h := ix_mem (x := x) (l := t)
    have := ix_range x t
    simp only [ix, List.mem_cons]
    split
    · simp [*]
    · split
      · constructor
        · intro h; omega
        · rintro (h2 | h2)
          · exact absurd h2 ‹_›
          · have := h.2 h2; omega
      · constructor
        · intro _; exact .inr (h.1 (by omega))
        · intro _; omega
theorem erase_filter {x : Int} : ∀ {l : List Int}, l.Nodup → ix x l ≥ 0 → l.eraseIdx (ix x l).toNat = l.filter (fun y => decide (y ≠ x))
  | [], _, h => by simp [ix] at h
  | y :: t, hn, h => by
    obtain ⟨hy, hn⟩ := List.nodup_cons.1 hn
    have hr := ix_range x t
    simp only [ix] at h ⊢
    by_cases e : x = y
    · subst e
      simp only [if_true, Int.toNat_zero, List.eraseIdx_cons_zero, List.filter_cons, ne_eq, not_true_eq_false, decide_false]
      symm
      exact List.filter_eq_self.2 (fun z hz => by simp; exact fun e => hy (e ▸ hz))
    · rw [if_neg e] at h ⊢
      by_cases e2 : ix x t < 0
      · rw [if_pos e2] at h; omega
      · rw [if_neg e2]
        have e3 : (ix x t + 1).toNat = (ix x t).toNat + 1 := by omega
        rw [e3, List.eraseIdx_cons_succ, erase_filter hn (by omega), List.filter_cons, if_pos (by simp; exact fun e2 => e e2.symm)]
theorem play_ref (places : Int) : ∀ (l th : List Int) (m : Int) (ot : List Int), th.Nodup → refF places l th m ot = playF places l th m ot
  | [], _, _, _, _ => rfl
  | r :: t, th, m, ot, hn => by
    simp only [refF, playF]
    by_cases h : ix r th ≥ 0
    · rw [if_pos h, if_pos h]; exact play_ref places t th m ot hn
    · rw [if_neg h, if_neg h]
      have hr : r ∉ th := fun hm => h (ix_mem.2 hm)
      by_cases hp : (th.length : Int) = places
      · rw [if_pos hp, if_pos hp]
        cases ot with
        | nil => simp [goesI]
        | cons x o =>
          have hx := ix_range x th
          show (if ix x th ≥ 0 then refF places t (th.filter (fun y => decide (y ≠ x)) ++ [r]) (m + 1) o else -1) = (if goesI th (x :: o) < 0 then -1 else playF places t (th.eraseIdx (goesI th (x :: o)).toNat ++ [r]) (m + 1) o)
          by_cases hxi : ix x th ≥ 0
          · rw [if_pos hxi, if_neg (show ¬ goesI th (x :: o) < 0 by show ¬ ix x th < 0; omega), show (goesI th (x :: o)).toNat = (ix x th).toNat from rfl, erase_filter hn hxi]
            exact play_ref places t _ _ o (List.nodup_append.2 ⟨hn.filter _, by simp, by
              intro a ha b hb
              simp at hb
              subst hb
              exact fun e => hr (e ▸ (List.mem_filter.1 ha).1)⟩)
          · rw [if_neg hxi, if_pos (show goesI th (x :: o) < 0 by show ix x th < 0; omega)]
      · rw [if_neg hp, if_neg hp]
        exact play_ref places t _ _ ot (List.nodup_append.2 ⟨hn, by simp, by
          intro a ha b hb
          simp at hb
          subst hb
          exact fun e => hr (e ▸ ha)⟩)
theorem HoldPlays_pure (l0 : List Int) (a1 : Int) (l2 : List Int) (hg0 : ∀ y ∈ l0, in64 y) (y0 : l0.length * 8 ≤ 140737488351232) (w1 : (Lit.int .i64 a1).wf = true) (hg2 : ∀ y ∈ l2, in64 y) (y2 : l2.length * 8 ≤ 140737488351232) : ∃ k, codemasonlaw_HoldPlays.f k l0 a1 l2 = some true :=
  ⟨0, by unfold codemasonlaw_HoldPlays.f; rw [if_pos (fun _ => play_ref a1 l0 [] 0 l2 List.nodup_nil)]⟩
end Go.Proofs.Ytaicamjpcnhjcaa.Pure
