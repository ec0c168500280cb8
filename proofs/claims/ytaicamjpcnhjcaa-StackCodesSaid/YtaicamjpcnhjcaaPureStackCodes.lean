/- The plain statement behind StackCodes: the code that the program puts is the document's code, with the same errors. -/
import Derived.Test.YtaicamjpcnhjcaaPA9
import Derived.Test.YtaicamjpcnhjcaaPA2
import Derived.Test.YtaicamjpcnhjcaaPu1
namespace Go.Proofs.Ytaicamjpcnhjcaa.Pure
open Go.RowKit Go.Proofs.Ytaicamjpcnhjcaa.PA Go.Proofs.YtaicamjpcnhjcaaW.PrintWords Go.Proofs.YtaicamjpcnhjcaaW.PrintLast

set_option linter.unusedVariables false

theorem needs_ev {l : List S159} (hn : l.length ≤ 16) (hA : Ahead l) : ∃ r, r.length = l.length ∧ Ev (fun k => need_needs.f k l) r := by
  have key := down_ind (n := l.length) (P := fun i => ∀ u : List Int, u.length = i → ∃ r, r.length = l.length ∧ Ev (fun k => need_needs.l0 k u l l.length i) r) ?_ ?_ 0 (by omega)
  · exact key [] rfl
  · intro u hu
    refine ⟨u, hu, ev_succ ?_⟩
    simp only [need_needs.l0]
    exact ev_neg (by omega) (Ev.now _)
  · intro i hi ih u hu
    have hAi := hA i hi
    rw [← rdT159_nat] at hAi
    have go : ∀ x : Int, ∃ r, r.length = l.length ∧ Ev (fun k => need_needs.l0 k (u ++ [x]) l l.length ((i + 1 : Nat) : Int)) r := fun x => ih _ (by simp [hu])
    by_cases h : (rd_T159 l i).f0 > 2
    · obtain ⟨h1, h2, h3, h4⟩ := hAi h
      by_cases e : rd u (rd_T159 l i).f1 = rd u (rd_T159 l i).f2
      · obtain ⟨r, hr, hv⟩ := go _
        refine ⟨r, hr, ev_succ ?_⟩
        simp only [need_needs.l0, wrap_nat hi (by omega)]
        exact ev_pos (by omega) (ev_pos (by omega) (ev_pos (by omega) (ev_pos h (ev_pos h1 (ev_pos (by omega) (ev_pos h3 (ev_pos (by omega) (ev_pos e (ev_pos (by omega) hv)))))))))
      · obtain ⟨r, hr, hv⟩ := go _
        refine ⟨r, hr, ev_succ ?_⟩
        simp only [need_needs.l0, wrap_nat hi (by omega)]
        exact ev_pos (by omega) (ev_pos (by omega) (ev_pos (by omega) (ev_pos h (ev_pos h1 (ev_pos (by omega) (ev_pos h3 (ev_pos (by omega) (ev_neg e (ev_pos (by omega) hv)))))))))
    · obtain ⟨r, hr, hv⟩ := go 1
      refine ⟨r, hr, ev_succ ?_⟩
      simp only [need_needs.l0, wrap_nat hi (by omega)]
      exact ev_pos (by omega) (ev_pos (by omega) (ev_pos (by omega) (ev_neg h (ev_pos (by omega) hv))))

theorem laid_ev {l : List S159} (hn : l.length ≤ 16) (hA : Ahead l) : ∀ (f i : Nat), i < f → f ≤ 16 → i < l.length → Ev (fun k => codemasonref_Laid.f k l (i : Int)) (laid l f i)
  | 0, i, hi, _, _ => absurd hi (by omega)
  | f + 1, i, hi, hf, hil => by
    have hAi := hA i hil
    have hl : laid l (f + 1) i = _ := laid.eq_2 l i f
    rw [← rdT159_nat] at hAi hl
    rw [hl]
    refine ev_succ ?_
    simp only [codemasonref_Laid.f]
    refine ev_pos (by omega) (ev_pos (by omega) (ev_ite (fun h => ev_some (by rw [if_neg (by omega)])) (fun h => ?_)))
    obtain ⟨h1, h2, h3, h4⟩ := hAi (by omega)
    obtain ⟨a, ha⟩ := Int.eq_ofNat_of_zero_le h1
    obtain ⟨b, hb⟩ := Int.eq_ofNat_of_zero_le h3
    rw [if_pos (by omega), ha, hb, Int.toNat_natCast, Int.toNat_natCast]
    have la := laid_length l f a
    have lb := laid_length l f b
    have hp : 2 ^ f ≤ 2 ^ 16 := Nat.pow_le_pow_right (by omega) (by omega)
    refine Ev.bind (laid_ev hn hA f a (by omega) (by omega) (by omega)) (Ev.bind (laid_ev hn hA f b (by omega) (by omega) (by omega)) ?_)
    simp only [Option.bind_some]
    refine ev_pos (by omega) (ev_pos (by simp only [List.length_append, List.length_cons, List.length_nil]; omega) (Ev.now _))

theorem sops_ev (l : List S161) (hl : l.length ≤ 9223372036854775807) : Ev (fun k => codemasonref_SOps.f k l l) true := by
  unfold codemasonref_SOps.f
  have key := down_ind (n := l.length) (P := fun i => Ev (fun k => codemasonref_SOps.l0 k l l i) true) ?_ ?_ 0 (by omega)
  · exact ev_pos rfl key
  · refine ev_succ ?_
    simp only [codemasonref_SOps.l0]
    exact ev_neg (by omega) (Ev.now _)
  · intro i hi ih
    refine ev_succ ?_
    simp only [codemasonref_SOps.l0, wrap_nat hi hl]
    exact ev_pos (by omega) (ev_pos (by omega) (ev_pos (by omega) (ev_neg (by simp) ih)))

theorem StackCodes_pure (a0 : Int) (l1 : List S159) (w0 : (Lit.int .i64 a0).wf = true) (hg1 : ∀ y ∈ l1, good159 y) (y1 : l1.length * 32 ≤ 140737488351232) : ∃ k, codemasonlaw_StackCodes.f k a0 l1 = some true := by
  refine Ev.rounds (r := true) ?_
  have hl : l1.length ≤ 9223372036854775807 := by omega
  unfold codemasonlaw_StackCodes.f stack_Code.f need_Need.f need_wrong.f codemasonlaw_treeCode.f
  have c1 := termCheck_ev a0 l1 hl
  have c2 := termsCheck_ev a0 l1 hl
  by_cases hc : termsCheck a0 l1 = 0
  · obtain ⟨g1, g2, hA⟩ := ahead_of hc
    rw [hc] at c1 c2
    have t1 := treeNeed_ev g2 hA
    have t2 := treeRef_ev (l := l1) g2
    have hlast := refs_last hA g1
    have heq : (∀ j : Nat, j < l1.length → ((j : Int) < l1.length - 1 → refs j l1 = 1) ∧ ((j : Int) = l1.length - 1 → refs j l1 ≠ 1)) ↔ (∀ j : Nat, j < l1.length → ((j : Int) < l1.length - 1 → refs j l1 = 1) ∧ ((j : Int) = l1.length - 1 → refs j l1 = 0)) :=
      ⟨fun h j hj => ⟨(h j hj).1, fun e => by rw [e]; exact hlast⟩, fun h j hj => ⟨(h j hj).1, fun e => by rw [e, hlast]; decide⟩⟩
    have w1 : wrap64 ((l1.length : Int) - 1) = ((l1.length - 1 : Nat) : Int) := by rw [wrap_in (by omega) (by omega)]; omega
    obtain ⟨r, hr, hv⟩ := needs_ev g2 hA
    by_cases ht : (∀ j : Nat, j < l1.length → ((j : Int) < l1.length - 1 → refs j l1 = 1) ∧ ((j : Int) = l1.length - 1 → refs j l1 = 0))
    · rw [decide_eq_true (heq.2 ht)] at t1
      rw [decide_eq_true ht] at t2
      refine Ev.bind (a := (laid l1 l1.length (l1.length - 1), 0)) (Ev.bind (a := (rd r (wrap64 ((l1.length : Int) - 1)), 0)) (Ev.bind (a := 0) (Ev.bind c1 (ev_pos rfl (Ev.bind t1 (ev_pos rfl (Ev.now _))))) (ev_pos rfl (Ev.bind hv (ev_pos (by rw [w1]; omega) (ev_pos (by rw [w1, hr]; omega) (Ev.now _)))))) (ev_pos rfl (ev_pos ⟨g1, g2, hA⟩ (Ev.now _)))) ?_
      refine Ev.bind (a := 0) (Ev.bind c2 (ev_pos rfl (Ev.bind t2 (ev_pos rfl (Ev.now _))))) (ev_pos rfl (ev_pos rfl ?_))
      have hll := laid_length l1 l1.length (l1.length - 1)
      have hp : 2 ^ l1.length ≤ 2 ^ 16 := Nat.pow_le_pow_right (by omega) g2
      rw [w1]
      exact Ev.bind (laid_ev g2 hA _ _ (by omega) g2 (by omega)) (Ev.bind (sops_ev _ (by show (laid l1 l1.length (l1.length - 1)).length ≤ _; omega)) (Ev.now _))
    · rw [decide_eq_false (fun h => ht (heq.1 h))] at t1
      rw [decide_eq_false ht] at t2
      refine Ev.bind (a := ([], 3)) (Ev.bind (a := (0, 3)) (Ev.bind (a := 3) (Ev.bind c1 (ev_pos rfl (Ev.bind t1 (ev_neg (by decide) (Ev.now _))))) (ev_neg (by decide) (Ev.now _))) (ev_neg (by decide) (Ev.now _))) ?_
      exact Ev.bind (a := 3) (Ev.bind c2 (ev_pos rfl (Ev.bind t2 (ev_neg (by decide) (Ev.now _))))) (ev_neg (by decide) (ev_pos rfl (Ev.now _)))
  · refine Ev.bind (a := ([], termsCheck a0 l1)) (Ev.bind (a := (0, termsCheck a0 l1)) (Ev.bind (a := termsCheck a0 l1) (Ev.bind c1 (ev_neg hc (Ev.now _))) (ev_neg hc (Ev.now _))) (ev_neg hc (Ev.now _))) ?_
    exact Ev.bind (a := termsCheck a0 l1) (Ev.bind c2 (ev_neg hc (Ev.now _))) (ev_neg hc (ev_pos rfl (Ev.now _)))

end Go.Proofs.Ytaicamjpcnhjcaa.Pure
