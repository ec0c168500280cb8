/- Texts of one proof, merged: Pu5, Pu7. -/
import Derived.Test.YtaicamjpcnhjcaaMShapeRuns4
namespace Go.Proofs.Ytaicamjpcnhjcaa.PA
open Go.RowKit Go.Proofs.YtaicamjpcnhjcaaW.PrintWords Go.Proofs.YtaicamjpcnhjcaaW.PrintLast Go.Proofs.YtaicamjpcnhjcaaW.PrintMore
set_option linter.unusedVariables false
set_option linter.unusedSimpArgs false
theorem and255 (x : Int) : Go.bits .and .i64 x 255 = x % 256 := by
  have h : (BitVec.ofInt 64 x &&& BitVec.ofInt 64 255).toNat = (x % 256).toNat := by
    rw [BitVec.toNat_and, BitVec.toNat_ofInt, show (BitVec.ofInt 64 255).toNat = 2 ^ 8 - 1 from rfl, Nat.and_two_pow_sub_one_eq_mod]
    omega
  show IntKind.i64.wrap ((BitVec.ofInt 64 x &&& BitVec.ofInt 64 255).toNat : Int) = x % 256
  rw [h, i64_w]
  unfold wrap64
  omega
def isVal (x : Int) : Prop := 0 ≤ x ∧ x ≤ 255
def opv (op a b : Int) : Int := if op = 3 then (a + b) % 256 else if op = 4 then (a - b) % 256 else if op = 5 then (a * b) % 256 else if a < b then 1 else 0
theorem opv_val (op a b : Int) : isVal (opv op a b) := by
  unfold opv isVal
  split
  · omega
  · split
    · omega
    · split
      · generalize a * b = c; omega
      · split <;> omega
theorem mul_bd {a b : Int} (ha : isVal a) (hb : isVal b) : 0 ≤ a * b ∧ a * b ≤ 65025 := by
  obtain ⟨a0, a1⟩ := ha
  obtain ⟨b0, b1⟩ := hb
  refine ⟨Int.mul_nonneg a0 b0, ?_⟩
  have h1 : a * b ≤ 255 * b := Int.mul_le_mul_of_nonneg_right a1 b0
  omega
theorem termDo_eq {op a b : Int} (ha : isVal a) (hb : isVal b) : term_Do.f op a b = some (opv op a b) := by
  have hm := mul_bd ha hb
  obtain ⟨a0, a1⟩ := ha
  obtain ⟨b0, b1⟩ := hb
  unfold term_Do.f opv
  simp only [and255]
  rw [wrap_in (x := a + b) (by omega) (by omega), wrap_in (x := a - b) (by omega) (by omega), wrap_in (x := a * b) (by omega) (by omega)]
  grind
theorem refOp_ev {op a b : Int} (ha : isVal a) (hb : isVal b) (h3 : 3 ≤ op) (h6 : op ≤ 6) : Ev (fun k => codemasonref_Op.f k op a b) (opv op a b) := by
  have hm := mul_bd ha hb
  obtain ⟨a0, a1⟩ := ha
  obtain ⟨b0, b1⟩ := hb
  have tm : ∀ x : Int, 0 ≤ x → Int.tmod x 256 = x % 256 := fun x hx => Int.tmod_eq_emod_of_nonneg hx
  unfold codemasonref_Op.f opv
  generalize hc : a * b = c at hm
  refine ev_ite (fun h => ?_) (fun h => ?_)
  all_goals
    refine ev_succ ?_
    simp only [codemasonref_Op.j0]
    refine ev_ite (fun h2 => ?_) (fun h2 => ?_)
    all_goals
      refine ev_succ ?_
      simp only [codemasonref_Op.j1, hc]
      refine ev_ite (fun h4 => ev_ite (fun h5 => ev_ite (fun h7 => ev_some ?_) (fun h7 => ev_some ?_)) (fun h5 => ev_some ?_)) (fun h4 => ev_ite (fun h5 => ev_ite (fun h7 => ev_some ?_) (fun h7 => ev_some ?_)) (fun h5 => ev_some ?_))
      all_goals first
        | (exfalso; omega)
        | (simp only [h, h2, h4, h5, h7, if_true, if_false, eq_self]; rfl)
        | (subst_vars; simp (config := { decide := true }) only [if_true, if_false]; rw [wrap_in (by omega) (by omega), tm _ (by omega)])
        | (subst_vars; simp (config := { decide := true }) only [if_true, if_false]; rw [wrap_in (by rw [wrap_in (by omega) (by omega)]; omega) (by rw [wrap_in (by omega) (by omega)]; omega), wrap_in (by omega) (by omega), tm _ (by omega)]; omega)
        | (subst_vars; simp (config := { decide := true }) only [*, if_true, if_false])
def stepV (s : S111) (v : List Int) : Int := if s.f0 = 1 then s.f4 else if s.f0 = 2 then rd v s.f4 else opv s.f0 (rd v s.f2) (rd v s.f3)
def doStep (v : List Int) (s : S111) : List Int := v.set s.f1.toNat (stepV s v)
def doing (l : List S111) (v : List Int) : List Int := l.foldl doStep v
def vals (n : Int) (v : List Int) : Prop := (v.length : Int) = n ∧ ∀ x ∈ v, isVal x
theorem vals_rd {n : Int} {v : List Int} (h : vals n v) (i : Int) : isVal (rd v i) := by
  unfold rd
  rw [List.getD_eq_getElem?_getD]
  cases e : v[i.toNat]? with
  | none => exact ⟨by decide, by decide⟩
  | some x => exact h.2 x (List.mem_of_getElem? e)
theorem vals_set {n : Int} {v : List Int} (h : vals n v) (i : Nat) {x : Int} (hx : isVal x) : vals n (v.set i x) :=
  ⟨by rw [List.length_set]; exact h.1, fun y hy => by
    rcases List.mem_or_eq_of_mem_set hy with h1 | h1
    · exact h.2 y h1
    · exact h1 ▸ hx⟩
def okStep (n : Int) (s : S111) : Prop := stepE n s.f0 s.f1 s.f2 s.f3 s.f4 = 0
theorem okStep_parts {n : Int} {s : S111} (h : okStep n s) : 1 ≤ s.f0 ∧ s.f0 ≤ 6 ∧ (0 ≤ s.f1 ∧ s.f1 < n) ∧ (s.f0 = 1 → 0 ≤ s.f4 ∧ s.f4 ≤ 255) ∧ (s.f0 = 2 → 0 ≤ s.f4 ∧ s.f4 < n) ∧ (2 < s.f0 → (0 ≤ s.f2 ∧ s.f2 < n) ∧ 0 ≤ s.f3 ∧ s.f3 < n) := by
  unfold okStep stepE insB at h
  simp only [Bool.and_eq_false_iff, decide_eq_false_iff_not] at h
  split at h
  · exact absurd h (by decide)
  · split at h
    · exact absurd h (by decide)
    · split at h
      · exact absurd h (by decide)
      · refine ⟨by omega, by omega, ⟨by omega, by omega⟩, fun _ => ⟨by omega, by omega⟩, fun _ => ⟨by omega, by omega⟩, fun _ => ⟨⟨by omega, by omega⟩, by omega, by omega⟩⟩
theorem stepV_val {n : Int} {s : S111} (h : okStep n s) {v : List Int} (hv : vals n v) : isVal (stepV s v) := by
  obtain ⟨h1, h2, h3, h4, h5, h6⟩ := okStep_parts h
  unfold stepV
  split
  · exact h4 ‹_›
  · split
    · exact vals_rd hv _
    · exact opv_val _ _ _
theorem doStep_vals {n : Int} {s : S111} (h : okStep n s) {v : List Int} (hv : vals n v) : vals n (doStep v s) := vals_set hv _ (stepV_val h hv)
theorem steps_ok {n : Int} : ∀ {l : List S111}, stepsErr n l = 0 → ∀ s ∈ l, okStep n s
  | [], _, s, hs => absurd hs (by simp)
  | x :: t, h, s, hs => by
    rw [stepsErr] at h
    by_cases e : stepE n x.f0 x.f1 x.f2 x.f3 x.f4 ≠ 0
    · rw [if_pos e] at h; exact absurd h e
    · rw [if_neg e] at h
      rcases List.mem_cons.1 hs with rfl | hs
      · exact by simpa [okStep] using e
      · exact steps_ok h s hs
theorem doing_vals {n : Int} : ∀ {l : List S111} {v : List Int}, (∀ s ∈ l, okStep n s) → vals n v → vals n (doing l v)
  | [], v, _, hv => hv
  | s :: l, v, h, hv => doing_vals (l := l) (fun x hx => h x (List.mem_cons_of_mem _ hx)) (doStep_vals (h s (by simp)) hv)
theorem doing_at {l : List S111} {i : Nat} (h : i < l.length) (v : List Int) : doing (l.drop i) v = doing (l.drop (i + 1)) (doStep v (rd_T111 l i)) := by rw [drop_at z111 h]; rfl
theorem mem_at {α : Type} {d : α} {l : List α} {i : Nat} (h : i < l.length) : l.getD i d ∈ l := by
  rw [List.getD_eq_getElem?_getD, List.getElem?_eq_getElem h]; exact List.getElem_mem h
theorem blockDo_ev {n : Int} {l : List S111} (hl : l.length ≤ 9223372036854775807) (h : ∀ s ∈ l, okStep n s) {v : List Int} (hv : vals n v) : Ev (fun k => block_Do.f k l v) (doing l v) := by
  have key := down_ind (n := l.length) (P := fun i => ∀ v, vals n v → Ev (fun k => block_Do.l0 k v l l.length i) (doing (l.drop i) v)) ?_ ?_ 0 (by omega)
  · exact key v hv
  · intro v hv
    refine ev_succ ?_
    simp only [block_Do.l0, List.drop_length]
    exact ev_neg (by omega) (Ev.now _)
  · intro i hi ih v hv
    have hs := h _ (mem_at (d := z111) hi)
    rw [doing_at hi]
    refine ev_succ ?_
    simp only [block_Do.l0, wrap_nat hi hl]
    rw [← rdT111_nat] at hs
    generalize rd_T111 l i = s at hs
    obtain ⟨h1, h2, h3, h4, h5, h6⟩ := okStep_parts hs
    replace ih := ih _ (doStep_vals hs hv)
    have hlen := hv.1
    have t1 := vals_rd hv s.f2
    have t2 := vals_rd hv s.f3
    refine ev_pos (by omega) (ev_pos (by omega) (ev_pos (by omega) (ev_ite (fun c => ev_pos (by omega) (ev_pos (by omega) ?_)) (fun c => ev_ite (fun c2 => ev_pos (by omega) (ev_pos (by omega) (ev_pos (by omega) (ev_pos (by omega) ?_)))) (fun c2 => ev_pos (by omega) (ev_pos (by omega) (ev_pos (by omega) (ev_pos (by omega) ?_))))))))
    · simpa only [doStep, stepV, if_pos c] using ih
    · simpa only [doStep, stepV, if_neg c, if_pos c2] using ih
    · simp only [termDo_eq t1 t2, Option.bind_some]
      refine ev_pos (by omega) (ev_pos (by omega) ?_)
      simpa only [doStep, stepV, if_neg c, if_neg c2] using ih
theorem refDoing_ev {n : Int} {l : List S111} (hl : l.length ≤ 9223372036854775807) (h : ∀ s ∈ l, okStep n s) {v : List Int} (hv : vals n v) (hn : n < 17592186044416) : Ev (fun k => codemasonref_Doing.f k l v) (doing l v) := by
  have key := down_ind (n := l.length) (P := fun i => ∀ v, vals n v → Ev (fun k => codemasonref_Doing.l0 k v l l.length i) (doing (l.drop i) v)) ?_ ?_ 0 (by omega)
  · unfold codemasonref_Doing.f
    simp only [Option.bind_some, List.length_nil, List.nil_append]
    exact ev_pos (by have := hv.1; omega) (key v hv)
  · intro v hv
    refine ev_succ ?_
    simp only [codemasonref_Doing.l0, List.drop_length]
    exact ev_neg (by omega) (Ev.now _)
  · intro i hi ih v hv
    have hs := h _ (mem_at (d := z111) hi)
    rw [doing_at hi]
    refine ev_succ ?_
    simp only [codemasonref_Doing.l0, wrap_nat hi hl]
    rw [← rdT111_nat] at hs
    generalize rd_T111 l i = s at hs
    obtain ⟨h1, h2, h3, h4, h5, h6⟩ := okStep_parts hs
    replace ih := ih _ (doStep_vals hs hv)
    have hlen := hv.1
    have t1 := vals_rd hv s.f2
    have t2 := vals_rd hv s.f3
    refine ev_pos (by omega) (ev_pos (by omega) (ev_pos (by omega) (ev_ite (fun c => ev_pos (by omega) (ev_pos (by omega) (ev_neg (by omega) (ev_pos (by omega) (ev_pos (by omega) ?_))))) (fun c => ev_ite (fun c2 => ev_pos (by omega) (ev_pos (by omega) (ev_pos (by omega) (ev_pos (by omega) (Ev.bind (refOp_ev t1 t2 (by omega) (by omega)) (ev_pos (by omega) (ev_pos (by omega) ?_))))))) (fun c2 => ev_pos (by omega) (ev_pos (by omega) ?_))))))
    · simpa only [doStep, stepV, if_neg (show ¬ s.f0 = 1 by omega), if_pos c] using ih
    · simpa only [doStep, stepV, if_neg (show ¬ s.f0 = 1 by omega), if_neg c] using ih
    · simpa only [doStep, stepV, if_pos (show s.f0 = 1 by omega)] using ih
end Go.Proofs.Ytaicamjpcnhjcaa.PA
namespace Go.Proofs.Ytaicamjpcnhjcaa.PA
open Go.RowKit Go.Proofs.YtaicamjpcnhjcaaW.PrintWords Go.Proofs.YtaicamjpcnhjcaaW.PrintLast Go.Proofs.YtaicamjpcnhjcaaW.PrintMore
set_option linter.unusedVariables false
set_option linter.unusedSimpArgs false
theorem ints_ev (a b : List Int) (ha : a.length ≤ 9223372036854775807) : Ev (fun k => codemasonref_Ints.f k a b) (decide (a = b)) := by
  unfold codemasonref_Ints.f
  refine ev_ite (fun hl => ?_) (fun hl => ev_some (by rw [decide_eq_false (fun e => hl (by rw [e]))]))
  have hl' : a.length = b.length := by omega
  have key := down_ind (n := a.length) (P := fun i => Ev (fun k => codemasonref_Ints.l0 k a b i) (decide (a.drop i = b.drop i))) ?_ ?_ 0 (by omega)
  · exact key
  · refine ev_succ ?_
    simp only [codemasonref_Ints.l0]
    refine ev_neg (by omega) (ev_some ?_)
    rw [List.drop_length, hl', List.drop_length]; rfl
  · intro i hi ih
    refine ev_succ ?_
    simp only [codemasonref_Ints.l0, wrap_nat hi ha, drop_at 0 hi, drop_at 0 (show i < b.length by omega), ← rd_nat, List.cons.injEq]
    refine ev_pos (by omega) (ev_pos (by omega) (ev_pos (by omega) (ev_ite (fun h => ev_eq ih ?_) (fun h => ev_some ?_))))
    · simp [h]
    · simp [h]
theorem ints_self (a : List Int) (ha : a.length ≤ 9223372036854775807) : Ev (fun k => codemasonref_Ints.f k a a) true := ev_eq (ints_ev a a ha) (by simp)
theorem haveErr_zero {v : Int} {l : List Int} (h : haveErr v l = 0) : vals v l := by
  unfold haveErr at h
  by_cases h1 : (l.length : Int) ≠ v
  · rw [if_pos h1] at h; exact absurd h (by decide)
  · rw [if_neg h1] at h
    by_cases h2 : (l.all fun x => decide (0 ≤ x ∧ x ≤ 255)) = true
    · exact ⟨by omega, fun x hx => by have := List.all_eq_true.1 h2 x hx; simpa [isVal] using this⟩
    · rw [if_neg h2] at h; exact absurd h (by decide)
end Go.Proofs.Ytaicamjpcnhjcaa.PA
