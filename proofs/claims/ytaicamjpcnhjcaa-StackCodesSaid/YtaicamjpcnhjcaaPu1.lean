/- Terms: what the program's and the document's checks come to, the tree's counts, the code of a term. -/
import Derived.Test.YtaicamjpcnhjcaaPu0
import Derived.Test.YtaicamjpcnhjcaaPA106
import Derived.Test.YtaicamjpcnhjcaaPA46
import Derived.Test.YtaicamjpcnhjcaaPA107
namespace Go.Proofs.Ytaicamjpcnhjcaa.PA
open Go.RowKit Go.Proofs.YtaicamjpcnhjcaaW.PrintWords Go.Proofs.YtaicamjpcnhjcaaW.PrintLast
set_option linter.unusedVariables false
set_option linter.unusedSimpArgs false

def termErr (v i : Int) (t : S159) : Int :=
  if t.f0 < 1 ∨ t.f0 > 6 then 6
  else if t.f0 = 1 ∧ ¬ (0 ≤ t.f3 ∧ t.f3 ≤ 255) ∨ t.f0 = 2 ∧ ¬ (0 ≤ t.f3 ∧ t.f3 < v) then 4
  else if t.f0 ≥ 3 ∧ ¬ (0 ≤ t.f1 ∧ t.f1 < i ∧ 0 ≤ t.f2 ∧ t.f2 < i) then 2 else 0
def termsErr (v : Int) : Nat → List S159 → Int
  | _, [] => 0
  | i, t :: r => if termErr v i t ≠ 0 then termErr v i t else termsErr v (i + 1) r
def termsCheck (v : Int) (l : List S159) : Int := if v < 0 ∨ v > 6 ∨ l.length < 1 ∨ l.length > 16 then 1 else termsErr v 0 l
theorem termsErr_at (v : Int) {l : List S159} {i : Nat} (h : i < l.length) : termsErr v i (l.drop i) = if termErr v i (rd_T159 l i) ≠ 0 then termErr v i (rd_T159 l i) else termsErr v (i + 1) (l.drop (i + 1)) := by
  rw [drop_at z159 h]; rfl

theorem inside_ev (n : Int) (l : List Int) (hl : l.length ≤ 9223372036854775807) : Ev (fun k => codemasonref_Inside.f k n l) (l.all fun x => decide (0 ≤ x) && decide (x < n)) := by
  unfold codemasonref_Inside.f
  have key := down_ind (n := l.length) (P := fun i => Ev (fun k => codemasonref_Inside.l0 k n l l.length i) ((l.drop i).all fun x => decide (0 ≤ x) && decide (x < n))) ?_ ?_ 0 (by omega)
  · exact key
  · refine ev_succ ?_
    simp only [codemasonref_Inside.l0, List.drop_length]
    exact ev_neg (by omega) (Ev.now _)
  · intro i hi ih
    refine ev_succ ?_
    simp only [codemasonref_Inside.l0, wrap_nat hi hl, drop_at 0 hi, List.all_cons, ← rd_nat]
    refine ev_pos (by omega) (ev_pos (by omega) (ev_pos (by omega) ?_))
    generalize rd l i = x
    refine ev_ite (fun h => ev_some ?_) (fun h => ev_ite (fun h2 => ev_some ?_) (fun h2 => ev_eq ih ?_))
    · rw [decide_eq_false (by omega)]; rfl
    · rw [decide_eq_false (show ¬ x < n by omega), Bool.and_false]; rfl
    · rw [decide_eq_true (show 0 ≤ x by omega), decide_eq_true (show x < n by omega)]; rfl
theorem inside1_ev (n x : Int) : Ev (fun k => codemasonref_Inside.f k n [x]) (decide (0 ≤ x ∧ x < n)) := ev_eq (inside_ev n [x] (by simp)) (by simp)
theorem inside2_ev (n x y : Int) : Ev (fun k => codemasonref_Inside.f k n [x, y]) (decide ((0 ≤ x ∧ x < n) ∧ 0 ≤ y ∧ y < n)) := ev_eq (inside_ev n [x, y] (by simp)) (by simp)
theorem value_eq (x : Int) : codemasonref_Value.f x = some (decide (0 ≤ x ∧ x ≤ 255)) := by
  unfold codemasonref_Value.f
  split <;> simp <;> omega

theorem termCheck_ev (v : Int) (l : List S159) (hl : l.length ≤ 9223372036854775807) : Ev (fun k => term_Check.f k v l) (termsCheck v l) := by
  have key := down_ind (n := l.length) (P := fun i => Ev (fun k => term_Check.l0 k v l l.length i) (termsErr v i (l.drop i))) ?_ ?_ 0 (by omega)
  · unfold term_Check.f
    have h1 : v < 0 ∨ v > 6 ∨ l.length < 1 ∨ l.length > 16 → Ev (fun k => term_Check.j0 k v l true) (termsCheck v l) := fun h => by
      refine ev_succ ?_
      simp only [term_Check.j0, if_true]
      exact ev_some (by rw [termsCheck, if_pos h])
    refine ev_ite (fun h => h1 (by omega)) (fun h => ev_ite (fun h2 => h1 (by omega)) (fun h2 => ev_ite (fun h3 => h1 (by omega)) (fun h3 => ?_)))
    refine ev_succ ?_
    simp only [term_Check.j0, decide_eq_true_eq]
    refine ev_ite (fun h => ev_some (by rw [termsCheck, if_pos (by omega)])) (fun h => ev_eq key (by rw [termsCheck, if_neg (by omega)]; rfl))
  · refine ev_succ ?_
    simp only [term_Check.l0, List.drop_length]
    exact ev_neg (by omega) (Ev.now _)
  · intro i hi ih
    refine ev_succ ?_
    simp only [term_Check.l0, termsErr_at v hi]
    refine ev_pos (by omega) (ev_pos (by omega) (ev_pos (by omega) ?_))
    generalize rd_T159 l i = t
    have h4 : ∀ b, Ev (fun k => term_Check.j4 k v i l l.length i b t.f0 t.f1 t.f2 t.f3) (if b = true then 4 else if t.f0 ≥ 3 ∧ ¬ (0 ≤ t.f1 ∧ t.f1 < i ∧ 0 ≤ t.f2 ∧ t.f2 < i) then 2 else termsErr v (i + 1) (l.drop (i + 1))) := fun b => by
      refine ev_succ ?_
      simp only [term_Check.j4, wrap_nat hi hl]
      refine ev_ite (fun h => ev_some (by rw [if_pos h])) (fun h => ev_ite (fun h2 => ev_ite (fun h3 => ev_some ?_) (fun h3 => ev_ite (fun h5 => ev_some ?_) (fun h5 => ev_eq ih ?_))) (fun h2 => ev_eq ih ?_))
      · unfold mn at h3; rw [if_neg h, if_pos (by omega)]
      · unfold mx at h5; rw [if_neg h, if_pos (by omega)]
      · unfold mn at h3; unfold mx at h5; rw [if_neg h, if_neg (by omega)]
      · rw [if_neg h, if_neg (by omega)]
    have h3 : ∀ b, Ev (fun k => term_Check.j3 k v i l l.length i b t.f0 t.f1 t.f2 t.f3) (if b = true ∨ t.f0 = 2 ∧ ¬ (0 ≤ t.f3 ∧ t.f3 < v) then 4 else if t.f0 ≥ 3 ∧ ¬ (0 ≤ t.f1 ∧ t.f1 < i ∧ 0 ≤ t.f2 ∧ t.f2 < i) then 2 else termsErr v (i + 1) (l.drop (i + 1))) := fun b => by
      refine ev_succ ?_
      simp only [term_Check.j3]
      refine ev_ite (fun h => ev_eq (h4 _) ?_) (fun h => ev_ite (fun h2 => ev_ite (fun h5 => ev_eq (h4 _) ?_) (fun h5 => ev_eq (h4 _) ?_)) (fun h2 => ev_eq (h4 _) ?_))
      all_goals grind
    have h2 : ∀ b, Ev (fun k => term_Check.j2 k v i l l.length i b t.f0 t.f1 t.f2 t.f3) (if b = true then 6 else if t.f0 = 1 ∧ ¬ (0 ≤ t.f3 ∧ t.f3 ≤ 255) ∨ t.f0 = 2 ∧ ¬ (0 ≤ t.f3 ∧ t.f3 < v) then 4 else if t.f0 ≥ 3 ∧ ¬ (0 ≤ t.f1 ∧ t.f1 < i ∧ 0 ≤ t.f2 ∧ t.f2 < i) then 2 else termsErr v (i + 1) (l.drop (i + 1))) := fun b => by
      refine ev_succ ?_
      simp only [term_Check.j2]
      refine ev_ite (fun h => ev_some (by rw [if_pos h])) (fun h => ev_ite (fun h2 => ev_ite (fun h5 => ev_eq (h3 _) ?_) (fun h5 => ev_eq (h3 _) ?_)) (fun h2 => ev_eq (h3 _) ?_))
      all_goals grind
    refine ev_ite (fun h => ev_eq (h2 _) ?_) (fun h => ev_eq (h2 _) ?_)
    all_goals (simp only [termErr]; grind)

theorem termsCheck_ev (v : Int) (l : List S159) (hl : l.length ≤ 9223372036854775807) : Ev (fun k => codemasonref_TermsCheck.f k v l) (termsCheck v l) := by
  have key := down_ind (n := l.length) (P := fun i => Ev (fun k => codemasonref_TermsCheck.l0 k v l l.length i) (termsErr v i (l.drop i))) ?_ ?_ 0 (by omega)
  · unfold codemasonref_TermsCheck.f
    have h1 : v < 0 ∨ v > 6 ∨ l.length < 1 ∨ l.length > 16 → Ev (fun k => codemasonref_TermsCheck.j0 k v l true) (termsCheck v l) := fun h => by
      refine ev_succ ?_
      simp only [codemasonref_TermsCheck.j0, if_true]
      exact ev_some (by rw [termsCheck, if_pos h])
    refine ev_ite (fun h => h1 (by omega)) (fun h => ev_ite (fun h2 => h1 (by omega)) (fun h2 => ev_ite (fun h3 => h1 (by omega)) (fun h3 => ?_)))
    refine ev_succ ?_
    simp only [codemasonref_TermsCheck.j0, decide_eq_true_eq]
    refine ev_ite (fun h => ev_some (by rw [termsCheck, if_pos (by omega)])) (fun h => ev_eq key (by rw [termsCheck, if_neg (by omega)]; rfl))
  · refine ev_succ ?_
    simp only [codemasonref_TermsCheck.l0, List.drop_length]
    exact ev_neg (by omega) (Ev.now _)
  · intro i hi ih
    refine ev_succ ?_
    simp only [codemasonref_TermsCheck.l0, termsErr_at v hi]
    refine ev_pos (by omega) (ev_pos (by omega) (ev_pos (by omega) ?_))
    generalize rd_T159 l i = t
    have h3 : ∀ b, Ev (fun k => codemasonref_TermsCheck.j3 k v i l l.length i b t.f0 t.f1 t.f2 t.f3) (if b = true then 4 else if t.f0 ≥ 3 ∧ ¬ (0 ≤ t.f1 ∧ t.f1 < i ∧ 0 ≤ t.f2 ∧ t.f2 < i) then 2 else termsErr v (i + 1) (l.drop (i + 1))) := fun b => by
      refine ev_succ ?_
      simp only [codemasonref_TermsCheck.j3, wrap_nat hi hl]
      refine ev_ite (fun h => ev_some (by rw [if_pos h])) (fun h => ev_ite (fun h2 => Ev.bind (inside2_ev _ _ _) (ev_ite (fun h3 => ev_eq ih ?_) (fun h3 => ev_some ?_))) (fun h2 => ev_eq ih ?_))
      all_goals grind
    have h2 : ∀ b, Ev (fun k => codemasonref_TermsCheck.j2 k v i l l.length i b t.f0 t.f1 t.f2 t.f3) (if b = true then 6 else if t.f0 = 1 ∧ ¬ (0 ≤ t.f3 ∧ t.f3 ≤ 255) ∨ t.f0 = 2 ∧ ¬ (0 ≤ t.f3 ∧ t.f3 < v) then 4 else if t.f0 ≥ 3 ∧ ¬ (0 ≤ t.f1 ∧ t.f1 < i ∧ 0 ≤ t.f2 ∧ t.f2 < i) then 2 else termsErr v (i + 1) (l.drop (i + 1))) := fun b => by
      refine ev_succ ?_
      simp only [codemasonref_TermsCheck.j2, value_eq, Option.bind_some]
      refine ev_ite (fun h => ev_some (by rw [if_pos h])) (fun h => ev_ite (fun h2 => ev_ite (fun h5 => ev_ite (fun h6 => absurd h6 (by omega)) (fun h6 => ev_eq (h3 _) ?_)) (fun h5 => ev_eq (h3 _) ?_)) (fun h2 => ev_ite (fun h5 => Ev.bind (inside1_ev _ _) (ev_eq (h3 _) ?_)) (fun h5 => ev_eq (h3 _) ?_)))
      all_goals grind
    refine ev_ite (fun h => ev_eq (h2 _) ?_) (fun h => ev_eq (h2 _) ?_)
    all_goals (simp only [termErr]; grind)

theorem ahead_of {v : Int} {l : List S159} (h : termsCheck v l = 0) : 1 ≤ l.length ∧ l.length ≤ 16 ∧ Ahead l := by
  unfold termsCheck at h
  split at h
  · exact absurd h (by decide)
  · have key : ∀ i, i ≤ l.length → termsErr v i (l.drop i) = 0 → ∀ j, i ≤ j → j < l.length → termErr v j (rd_T159 l j) = 0 := by
      refine down_ind (fun _ j h1 h2 => by omega) ?_
      intro i hi ih h0 j h1 h2
      rw [termsErr_at v hi] at h0
      split at h0
      · omega
      · rename_i h3
        rcases Nat.eq_or_lt_of_le h1 with rfl | h1
        · omega
        · exact ih h0 j h1 h2
    refine ⟨by omega, by omega, fun i hi h3 => ?_⟩
    have h4 := key 0 (by omega) h i (by omega) hi
    unfold termErr at h4
    rw [rdT159_nat] at h4
    grind

/-- How often terms lead to j. -/
def refs (j : Int) : List S159 → Int
  | [] => 0
  | t :: r => (if t.f0 > 2 then (if t.f1 = j then 1 else 0) + (if t.f2 = j then 1 else 0) else 0) + refs j r
theorem refs_at (j : Int) {l : List S159} {i : Nat} (h : i < l.length) : refs j (l.drop i) = (if (rd_T159 l i).f0 > 2 then (if (rd_T159 l i).f1 = j then 1 else 0) + (if (rd_T159 l i).f2 = j then 1 else 0) else 0) + refs j (l.drop (i + 1)) := by
  rw [drop_at z159 h]; rfl
theorem refs_range (j : Int) : ∀ l, 0 ≤ refs j l ∧ refs j l ≤ 2 * l.length
  | [] => by simp [refs]
  | t :: r => by
    have := refs_range j r
    simp only [refs, List.length_cons]
    split <;> (try split) <;> (try split) <;> omega
theorem refs_last {l : List S159} (hA : Ahead l) (h : 1 ≤ l.length) : refs ((l.length : Int) - 1) l = 0 := by
  have key : ∀ i, i ≤ l.length → refs ((l.length : Int) - 1) (l.drop i) = 0 := by
    refine down_ind ?_ ?_
    · rw [List.drop_length]; rfl
    · intro i hi ih
      rw [refs_at _ hi, ih, rdT159_nat]
      have := hA i hi
      split
      · rename_i h3
        obtain ⟨_, h5, _, h6⟩ := this h3
        rw [if_neg (by omega), if_neg (by omega)]; rfl
      · rfl
  exact key 0 (by omega)

open Classical in
theorem treeRef_ev {l : List S159} (hn : l.length ≤ 16) : Ev (fun k => codemasonref_Tree.f k l) (decide (∀ j : Nat, j < l.length → ((j : Int) < l.length - 1 → refs j l = 1) ∧ ((j : Int) = l.length - 1 → refs j l = 0))) := by
  unfold codemasonref_Tree.f
  have key := down_ind (n := l.length) (P := fun i => Ev (fun k => codemasonref_Tree.l0 k l i) (decide (∀ j : Nat, i ≤ j → j < l.length → ((j : Int) < l.length - 1 → refs j l = 1) ∧ ((j : Int) = l.length - 1 → refs j l = 0)))) ?_ ?_ 0 (by omega)
  · exact ev_eq key (by simp)
  · refine ev_succ ?_
    simp only [codemasonref_Tree.l0]
    exact ev_neg (by omega) (ev_some (by symm; rw [decide_eq_true_eq]; intro j h1 h2; omega))
  · intro i hi ih
    have hstep : ∀ b : Bool, (b = decide (((i : Int) < l.length - 1 → refs i l = 1) ∧ ((i : Int) = l.length - 1 → refs i l = 0))) → (b && decide (∀ j : Nat, i + 1 ≤ j → j < l.length → ((j : Int) < l.length - 1 → refs j l = 1) ∧ ((j : Int) = l.length - 1 → refs j l = 0))) = decide (∀ j : Nat, i ≤ j → j < l.length → ((j : Int) < l.length - 1 → refs j l = 1) ∧ ((j : Int) = l.length - 1 → refs j l = 0)) := by
      intro b hb
      rw [hb, ← Bool.decide_and, decide_eq_decide]
      constructor
      · rintro ⟨h1, h2⟩ j h3 h4
        rcases Nat.eq_or_lt_of_le h3 with rfl | h3
        · exact h1
        · exact h2 j h3 h4
      · exact fun h => ⟨h i (by omega) hi, fun j h3 h4 => h j (by omega) h4⟩
    have w1 : wrap64 ((l.length : Int) - 1) = l.length - 1 := wrap_in (by omega) (by omega)
    have inner := down_ind (n := l.length) (P := fun q => ∀ c : Int, c + refs i (l.drop q) = refs i l → Ev (fun k => codemasonref_Tree.l1 k l i c l l.length q) (decide (∀ j : Nat, i ≤ j → j < l.length → ((j : Int) < l.length - 1 → refs j l = 1) ∧ ((j : Int) = l.length - 1 → refs j l = 0)))) ?_ ?_ 0 (by omega)
    · refine ev_succ ?_
      simp only [codemasonref_Tree.l0]
      exact ev_pos (by omega) (inner 0 (by simp))
    · intro c hc
      rw [List.drop_length, refs, Int.add_zero] at hc
      refine ev_succ ?_
      simp only [codemasonref_Tree.l1, w1, wrap_nat hi (by omega)]
      refine ev_neg (by omega) ?_
      refine ev_ite (fun h1 => ev_ite (fun h2 => ev_ite (fun h3 => absurd h3 (by omega)) (fun h3 => ev_eq ih ?_)) (fun h2 => ev_some ?_)) (fun h1 => ev_ite (fun h2 => ev_ite (fun h3 => ev_eq ih ?_) (fun h3 => ev_some ?_)) (fun h2 => ev_eq ih ?_))
      · rw [← hstep true (by symm; rw [decide_eq_true_eq]; omega)]; rfl
      · rw [← hstep false (by symm; rw [decide_eq_false_iff_not]; omega)]; rfl
      · rw [← hstep true (by symm; rw [decide_eq_true_eq]; omega)]; rfl
      · rw [← hstep false (by symm; rw [decide_eq_false_iff_not]; omega)]; rfl
      · rw [← hstep true (by symm; rw [decide_eq_true_eq]; omega)]; rfl
    · intro q hq iq c hc
      rw [refs_at _ hq] at hc
      have hr := refs_range i (l.drop (q + 1))
      have hr2 := refs_range i l
      simp only [List.length_drop] at hr
      refine ev_succ ?_
      simp only [codemasonref_Tree.l1]
      refine ev_pos (by omega) (ev_pos (by omega) (ev_pos (by omega) ?_))
      generalize rd_T159 l q = t at hc
      have h2 : ∀ b : Bool, b = decide (t.f0 ≥ 3 ∧ t.f1 = i) → Ev (fun k => codemasonref_Tree.j2 k l i c l l.length q b t.f0 t.f1 t.f2 t.f3) (decide (∀ j : Nat, i ≤ j → j < l.length → ((j : Int) < l.length - 1 → refs j l = 1) ∧ ((j : Int) = l.length - 1 → refs j l = 0))) := fun b hb => by
        refine ev_succ ?_
        have w2 : wrap64 (c + 1) = c + 1 := wrap_in (by split at hc <;> (try split at hc) <;> (try split at hc) <;> omega) (by split at hc <;> (try split at hc) <;> (try split at hc) <;> omega)
        have w3 : wrap64 (c + 1 + 1) = c + 1 + 1 := wrap_in (by split at hc <;> (try split at hc) <;> (try split at hc) <;> omega) (by split at hc <;> (try split at hc) <;> (try split at hc) <;> omega)
        simp only [codemasonref_Tree.j2, w2, w3, wrap_nat hq (by omega), hb, decide_eq_true_eq]
        refine ev_ite (fun h => ev_ite (fun h5 => ev_ite (fun h6 => iq _ ?_) (fun h6 => iq _ ?_)) (fun h5 => absurd h.1 h5)) (fun h => ev_ite (fun h5 => ev_ite (fun h6 => iq _ ?_) (fun h6 => iq _ ?_)) (fun h5 => iq _ ?_))
        all_goals grind
      refine ev_ite (fun h => h2 _ ?_) (fun h => h2 _ ?_)
      · rw [Bool.eq_iff_iff]; simp [h]
      · symm; rw [decide_eq_false_iff_not]; omega

theorem getD_set {u : List Int} {i j : Nat} (x : Int) (hi : i < u.length) : (u.set i x).getD j 0 = if j = i then x else u.getD j 0 := by
  simp only [List.getD_eq_getElem?_getD, List.getElem?_set]
  by_cases h : i = j
  · subst h; simp [hi]
  · rw [if_neg h, if_neg (fun e => h e.symm)]

open Classical in
theorem treeNeed_ev {l : List S159} (hn : l.length ≤ 16) (hA : Ahead l) : Ev (fun k => need_tree.f k l) (decide (∀ j : Nat, j < l.length → ((j : Int) < l.length - 1 → refs j l = 1) ∧ ((j : Int) = l.length - 1 → refs j l ≠ 1))) := by
  have w1 : wrap64 ((l.length : Int) - 1) = l.length - 1 ∨ l.length = 0 := by rcases Nat.eq_zero_or_pos l.length with h | h; exact .inr h; exact .inl (wrap_in (by omega) (by omega))
  have fin : ∀ u : List Int, u.length = l.length → (∀ j : Nat, j < l.length → u.getD j 0 = refs j l) → Ev (fun k => need_tree.l1 k l u l.length 0) (decide (∀ j : Nat, j < l.length → ((j : Int) < l.length - 1 → refs j l = 1) ∧ ((j : Int) = l.length - 1 → refs j l ≠ 1))) := by
    intro u hu hr
    have key := down_ind (n := l.length) (P := fun i => Ev (fun k => need_tree.l1 k l u l.length i) (decide (∀ j : Nat, i ≤ j → j < l.length → ((j : Int) < l.length - 1 → refs j l = 1) ∧ ((j : Int) = l.length - 1 → refs j l ≠ 1)))) ?_ ?_ 0 (by omega)
    · exact ev_eq key (by simp)
    · refine ev_succ ?_
      simp only [need_tree.l1]
      exact ev_neg (by omega) (ev_some (by symm; rw [decide_eq_true_eq]; intro j h1 h2; omega))
    · intro i hi ih
      have w1 : wrap64 ((l.length : Int) - 1) = l.length - 1 := wrap_in (by omega) (by omega)
      have hri := hr i hi
      rw [← rd_nat] at hri
      refine ev_succ ?_
      simp only [need_tree.l1, w1, wrap_nat hi (by omega), hri]
      refine ev_pos (by omega) (ev_pos (by omega) (ev_pos (by omega) (ev_ite (fun h => ev_some ?_) (fun h => ev_eq ih ?_))))
      · symm
        rw [decide_eq_false_iff_not]
        intro h2
        have h3 := h2 i (Nat.le_refl _) hi
        by_cases h4 : (i : Int) < l.length - 1
        · simp [h4, h3.1 h4] at h
        · simp [h4] at h
          exact h3.2 (by omega) h
      · rw [decide_eq_decide]
        constructor
        · intro h2 j h3 h4
          rcases Nat.eq_or_lt_of_le h3 with rfl | h3
          · by_cases h4 : (i : Int) < l.length - 1
            · simp [h4] at h; exact ⟨fun _ => h, fun _ => by omega⟩
            · simp [h4] at h; exact ⟨fun h5 => absurd h5 h4, fun _ => h⟩
          · exact h2 j h3 h4
        · exact fun h2 j h3 h4 => h2 j (by omega) h4
  have key := down_ind (n := l.length) (P := fun i => ∀ u : List Int, u.length = l.length → (∀ j : Nat, j < l.length → u.getD j 0 + refs j (l.drop i) = refs j l) → Ev (fun k => need_tree.l0 k l u l l.length i) (decide (∀ j : Nat, j < l.length → ((j : Int) < l.length - 1 → refs j l = 1) ∧ ((j : Int) = l.length - 1 → refs j l ≠ 1)))) ?_ ?_ 0 (by omega)
  · unfold need_tree.f
    refine ev_pos (by omega) (ev_pos (by omega) (key _ (by simp) ?_))
    intro j hj
    simp [List.getD_eq_getElem?_getD, hj]
  · intro u hu hr
    refine ev_succ ?_
    simp only [need_tree.l0, hu]
    refine ev_neg (by omega) (fin u hu (fun j hj => ?_))
    have := hr j hj
    rw [List.drop_length] at this
    simpa [refs] using this
  · intro i hi ih u hu hr
    have hAi := hA i hi
    rw [← rdT159_nat] at hAi
    have hr' : ∀ j : Nat, j < l.length → u.getD j 0 + ((if (rd_T159 l i).f0 > 2 then (if (rd_T159 l i).f1 = j then 1 else 0) + (if (rd_T159 l i).f2 = j then 1 else 0) else 0) + refs j (l.drop (i + 1))) = refs j l := fun j hj => by rw [← refs_at _ hi]; exact hr j hj
    refine ev_succ ?_
    simp only [need_tree.l0, wrap_nat hi (by omega), hu]
    refine ev_pos (by omega) (ev_pos (by omega) (ev_pos (by omega) ?_))
    generalize rd_T159 l i = t at hAi hr'
    refine ev_ite (fun h => ?_) (fun h => ih u hu (fun j hj => by have := hr' j hj; rw [if_neg h] at this; omega))
    obtain ⟨h1, h2, h3, h4⟩ := hAi h
    obtain ⟨a, ha⟩ := Int.eq_ofNat_of_zero_le h1
    obtain ⟨b, hb⟩ := Int.eq_ofNat_of_zero_le h3
    rw [ha] at h1 h2 hr'
    rw [hb] at h3 h4 hr'
    rw [ha, hb]
    refine ev_pos h1 (ev_pos (by omega) ?_)
    simp only [Option.bind_some]
    refine ev_pos h3 (ev_pos (by omega) ?_)
    have ra := hr' a (by omega)
    have rb := hr' b (by omega)
    rw [if_pos h] at ra rb
    have bd : ∀ j : Nat, j < l.length → 0 ≤ refs j (l.drop (i + 1)) ∧ refs j l ≤ 32 := fun j _ => ⟨(refs_range _ _).1, by have := (refs_range j l).2; omega⟩
    have ba := bd a (by omega)
    have bb := bd b (by omega)
    rw [if_pos rfl] at ra
    have hla : a < u.length := by omega
    have hlo : ∀ j : Nat, j < l.length → -100 ≤ u.getD j 0 ∧ u.getD j 0 ≤ 32 := fun j hj => by
      have h5 := hr' j hj
      have h6 := refs_range j (l.drop (i + 1))
      have h7 := refs_range j l
      simp only [List.length_drop] at h6
      split at h5 <;> (try split at h5) <;> (try split at h5) <;> omega
    have va := hlo a (by omega)
    have vb := hlo b (by omega)
    have wa : wrap64 (rd u (a : Int) + 1) = u.getD a 0 + 1 := by rw [rd_nat]; exact wrap_in (by omega) (by omega)
    rw [wa]
    have eb : rd (u.set (a : Int).toNat (u.getD a 0 + 1)) (b : Int) = if b = a then u.getD a 0 + 1 else u.getD b 0 := by rw [rd_nat, Int.toNat_natCast, getD_set _ hla]
    have wb : wrap64 (rd (u.set (a : Int).toNat (u.getD a 0 + 1)) (b : Int) + 1) = (if b = a then u.getD a 0 + 1 else u.getD b 0) + 1 := by rw [eb]; exact wrap_in (by split <;> omega) (by split <;> omega)
    rw [wb, Int.toNat_natCast, Int.toNat_natCast]
    refine ih _ (by simp [hu]) (fun j hj => ?_)
    have h5 := hr' j hj
    rw [if_pos h] at h5
    rw [getD_set _ (by simp; omega), getD_set _ hla]
    grind
end Go.Proofs.Ytaicamjpcnhjcaa.PA
