/- Shapes: how many, how many steps, how deep; what the program's and the document's checks come to. -/
import Derived.Test.YtaicamjpcnhjcaaPu2
import Derived.Test.YtaicamjpcnhjcaaPA2
import Derived.Test.YtaicamjpcnhjcaaPA49
import Derived.Test.YtaicamjpcnhjcaaPA50
namespace Go.Proofs.Ytaicamjpcnhjcaa.PA
open Go.RowKit Go.Proofs.YtaicamjpcnhjcaaW.PrintWords Go.Proofs.YtaicamjpcnhjcaaW.PrintLast Go.Proofs.YtaicamjpcnhjcaaW.PrintMore
set_option linter.unusedVariables false
set_option linter.unusedSimpArgs false

def szPart (go : List S127 → Int × Int × Int) (p : List S127) (a : Int × Int × Int) : Int × Int × Int :=
  if p = [] then a else (a.1 + (go p).1, a.2.1 + (go p).2.1, mx a.2.2 (go p).2.2)
def szLoop (go : List S127 → Int × Int × Int) : List S127 → Int × Int × Int → Int × Int × Int
  | [], a => a
  | x :: t, a => szLoop go t (szPart go x.f4 (szPart go x.f3 (a.1, a.2.1 + x.f2.length, a.2.2)))
/-- Shapes, steps, how deep, j levels being left. -/
def sz : Nat → List S127 → Int × Int × Int
  | 0, l => (l.length, 0, 6)
  | j + 1, l => if l.length > 8 then (l.length, 0, 5 - j) else szLoop (sz j) l (l.length, 0, 5 - j)
def MB : Nat → Int
  | 0 => 2199023255552
  | j + 1 => 2199023255552 + 16 * MB j
def SB : Nat → Int
  | 0 => 0
  | j + 1 => 28147497670464 + 16 * SB j
theorem MB_pos : ∀ j, 0 ≤ MB j
  | 0 => by decide
  | j + 1 => by have := MB_pos j; unfold MB; omega
theorem SB_pos : ∀ j, 0 ≤ SB j
  | 0 => by decide
  | j + 1 => by have := SB_pos j; unfold SB; omega
/-- Bounds on what one comes to. -/
def Bd (j : Nat) (a : Int × Int × Int) : Prop := 0 ≤ a.1 ∧ a.1 ≤ MB j ∧ 0 ≤ a.2.1 ∧ a.2.1 ≤ SB j ∧ 0 ≤ a.2.2 ∧ a.2.2 ≤ 6
theorem szPart_bd {go : List S127 → Int × Int × Int} {j : Nat} {p : List S127} (hp : Bd j (go p)) {a : Int × Int × Int} {m s : Int} (ha : 0 ≤ a.1 ∧ a.1 ≤ m ∧ 0 ≤ a.2.1 ∧ a.2.1 ≤ s ∧ 0 ≤ a.2.2 ∧ a.2.2 ≤ 6) :
    0 ≤ (szPart go p a).1 ∧ (szPart go p a).1 ≤ m + MB j ∧ 0 ≤ (szPart go p a).2.1 ∧ (szPart go p a).2.1 ≤ s + SB j ∧ 0 ≤ (szPart go p a).2.2 ∧ (szPart go p a).2.2 ≤ 6 := by
  obtain ⟨h1, h2, h3, h4, h5, h6⟩ := hp
  obtain ⟨k1, k2, k3, k4, k5, k6⟩ := ha
  have := MB_pos j
  have := SB_pos j
  unfold szPart
  split
  · exact ⟨k1, by omega, k3, by omega, k5, k6⟩
  · exact ⟨by show 0 ≤ _ + _; omega, by show _ + _ ≤ _; omega, by show 0 ≤ _ + _; omega, by show _ + _ ≤ _; omega, by show 0 ≤ mx _ _; unfold mx; split <;> omega, by show mx _ _ ≤ 6; unfold mx; split <;> omega⟩
theorem szLoop_bd {go : List S127 → Int × Int × Int} {j : Nat} : ∀ (l : List S127) (a : Int × Int × Int) (m s : Int), (∀ x ∈ l, Bd j (go x.f3) ∧ Bd j (go x.f4) ∧ x.f2.length * 40 ≤ 140737488351232) → (0 ≤ a.1 ∧ a.1 ≤ m ∧ 0 ≤ a.2.1 ∧ a.2.1 ≤ s ∧ 0 ≤ a.2.2 ∧ a.2.2 ≤ 6) →
    0 ≤ (szLoop go l a).1 ∧ (szLoop go l a).1 ≤ m + l.length * (2 * MB j) ∧ 0 ≤ (szLoop go l a).2.1 ∧ (szLoop go l a).2.1 ≤ s + l.length * (3518437208808 + 2 * SB j) ∧ 0 ≤ (szLoop go l a).2.2 ∧ (szLoop go l a).2.2 ≤ 6
  | [], a, m, s, _, ha => by simpa [szLoop] using ha
  | x :: t, a, m, s, hx, ha => by
    obtain ⟨h3, h4, h5⟩ := hx x (by simp)
    have b1 := szPart_bd h3 (a := (a.1, a.2.1 + x.f2.length, a.2.2)) (m := m) (s := s + 3518437208808) ⟨ha.1, ha.2.1, by show 0 ≤ _ + _; omega, by show _ + _ ≤ _; omega, ha.2.2.2.2.1, ha.2.2.2.2.2⟩
    have b2 := szPart_bd h4 b1
    have b3 := szLoop_bd t _ _ _ (fun y hy => hx y (List.mem_cons_of_mem _ hy)) b2
    have e1 : ((x :: t).length : Int) * (2 * MB j) = t.length * (2 * MB j) + 2 * MB j := by rw [List.length_cons]; push_cast; rw [Int.add_mul, Int.one_mul]
    have e2 : ((x :: t).length : Int) * (3518437208808 + 2 * SB j) = t.length * (3518437208808 + 2 * SB j) + (3518437208808 + 2 * SB j) := by rw [List.length_cons]; push_cast; rw [Int.add_mul, Int.one_mul]
    rw [e1, e2]
    exact ⟨b3.1, by show (szLoop go t _).1 ≤ _; omega, b3.2.2.1, by show (szLoop go t _).2.1 ≤ _; omega, b3.2.2.2.2.1, b3.2.2.2.2.2⟩
theorem sz_bd : ∀ (j : Nat), j ≤ 5 → ∀ (l : List S127), (∀ x ∈ l, good127 x) → l.length * 88 ≤ 140737488351232 → Bd j (sz j l)
  | 0, _, l, _, hl => ⟨by show (0 : Int) ≤ l.length; omega, by show (l.length : Int) ≤ 2199023255552; omega, Int.le_refl (0 : Int), Int.le_refl (0 : Int), by show (0 : Int) ≤ 6; decide, by show (6 : Int) ≤ 6; decide⟩
  | j + 1, hj, l, hg, hl => by
    have hM := MB_pos j
    have hS := SB_pos j
    unfold sz
    split
    · exact ⟨by show (0 : Int) ≤ l.length; omega, by show (l.length : Int) ≤ 2199023255552 + 16 * MB j; omega, Int.le_refl (0 : Int), by show (0 : Int) ≤ 28147497670464 + 16 * SB j; omega, by show (0 : Int) ≤ 5 - j; omega, by show (5 : Int) - j ≤ 6; omega⟩
    · have b := szLoop_bd (go := sz j) (j := j) l (l.length, 0, 5 - j) l.length 0 (fun x hx => by
        obtain ⟨⟨_, _, _, f2, f3, f4⟩, g3, g4⟩ := (hg x hx).parts
        exact ⟨sz_bd j (by omega) x.f3 g3 f3, sz_bd j (by omega) x.f4 g4 f4, f2⟩) ⟨by show (0 : Int) ≤ l.length; omega, Int.le_refl _, Int.le_refl _, Int.le_refl _, by show (0 : Int) ≤ 5 - j; omega, by show (5 : Int) - j ≤ 6; omega⟩
      have e1 : (l.length : Int) * (2 * MB j) ≤ 8 * (2 * MB j) := Int.mul_le_mul_of_nonneg_right (by omega) (by omega)
      have e2 : (l.length : Int) * (3518437208808 + 2 * SB j) ≤ 8 * (3518437208808 + 2 * SB j) := Int.mul_le_mul_of_nonneg_right (by omega) (by omega)
      exact ⟨b.1, by show _ ≤ 2199023255552 + 16 * MB j; omega, b.2.2.1, by show _ ≤ 28147497670464 + 16 * SB j; omega, b.2.2.2.2.1, b.2.2.2.2.2⟩
theorem MB_le : ∀ j, j ≤ 5 → MB j ≤ 2500000000000000000
  | 0, _ => by decide
  | 1, _ => by decide
  | 2, _ => by decide
  | 3, _ => by decide
  | 4, _ => by decide
  | 5, _ => by decide
  | j + 6, h => by omega
theorem SB_le : ∀ j, j ≤ 5 → SB j ≤ 2000000000000000000
  | 0, _ => by decide
  | 1, _ => by decide
  | 2, _ => by decide
  | 3, _ => by decide
  | 4, _ => by decide
  | 5, _ => by decide
  | j + 6, h => by omega

/-- Both ways of adding parts up come to the same. -/
theorem part_ev {j : Nat} (hj : j ≤ 4) {p : List S127} {d : Int} (g : p ≠ [] → Ev (fun k => shape_size.f k p d) (sz j p)) (hb : Bd j (sz j p)) {a : Int × Int × Int} (ha : 0 ≤ a.1 ∧ a.1 ≤ 3000000000000000000 ∧ 0 ≤ a.2.1 ∧ a.2.1 ≤ 3000000000000000000) :
    Ev (fun k => sizePart (fun p => shape_size.f k p d) p a) (szPart (sz j) p a) := by
  obtain ⟨h1, h2, h3, h4, _, _⟩ := hb
  have := MB_le j (by omega)
  have := SB_le j (by omega)
  unfold sizePart szPart
  by_cases hp : p = []
  · subst hp
    simp only [List.length_nil, if_true]
    exact ev_neg (by decide) (Ev.now _)
  · have hl : (p.length : Int) > 0 := by have := List.length_pos_iff.2 hp; omega
    simp only [if_neg hp]
    refine ev_pos hl (Ev.bind (g hp) ?_)
    rw [wrap_in (x := a.1 + (sz j p).1) (by omega) (by omega), wrap_in (x := a.2.1 + (sz j p).2.1) (by omega) (by omega)]
    exact Ev.now _
theorem sspart_ev {j : Nat} (hj : j ≤ 4) {p : List S127} {d : Int} (g : p ≠ [] → Ev (fun k => codemasonref_ShapeSize.f k p d) (sz j p)) (hd : 1 ≤ d ∧ d ≤ 6) (hb : Bd j (sz j p)) {a : Int × Int × Int} (ha : 0 ≤ a.1 ∧ a.1 ≤ 3000000000000000000 ∧ 0 ≤ a.2.1 ∧ a.2.1 ≤ 3000000000000000000) (ha3 : d - 1 ≤ a.2.2) :
    Ev (fun k => ssPart (fun p => codemasonref_ShapeSize.f k p d) p a) (szPart (sz j) p a) := by
  obtain ⟨h1, h2, h3, h4, _, _⟩ := hb
  have := MB_le j (by omega)
  have := SB_le j (by omega)
  unfold ssPart szPart
  by_cases hp : p = []
  · subst hp
    simp only [if_true]
    refine Ev.bind (a := (0, 0, d - 1)) (ev_succ ?_) ?_
    · simp only [codemasonref_ShapeSize.f, List.length_nil, if_true]
      exact ev_some (by rw [wrap_in (by omega) (by omega)])
    · simp only [Int.add_zero]
      rw [wrap_in (x := a.1) (by omega) (by omega), wrap_in (x := a.2.1) (by omega) (by omega)]
      refine ev_some ?_
      rw [if_neg (by show ¬ a.2.2 < d - 1; omega)]
  · simp only [if_neg hp]
    refine Ev.bind (g hp) ?_
    rw [wrap_in (x := a.1 + (sz j p).1) (by omega) (by omega), wrap_in (x := a.2.1 + (sz j p).2.1) (by omega) (by omega)]
    exact Ev.now _
theorem szPart_deep {go : List S127 → Int × Int × Int} {p : List S127} {a : Int × Int × Int} : a.2.2 ≤ (szPart go p a).2.2 := by
  unfold szPart
  split
  · exact Int.le_refl _
  · show a.2.2 ≤ mx _ _
    unfold mx; split <;> omega
theorem loop_ev {j : Nat} (hj : j ≤ 4) {d : Int} (hd : 1 ≤ d ∧ d ≤ 6) : ∀ (l : List S127) (a : Int × Int × Int), (∀ x ∈ l, x.f2.length * 40 ≤ 140737488351232 ∧ Bd j (sz j x.f3) ∧ Bd j (sz j x.f4) ∧
      (x.f3 ≠ [] → Ev (fun k => shape_size.f k x.f3 d) (sz j x.f3) ∧ Ev (fun k => codemasonref_ShapeSize.f k x.f3 d) (sz j x.f3)) ∧ (x.f4 ≠ [] → Ev (fun k => shape_size.f k x.f4 d) (sz j x.f4) ∧ Ev (fun k => codemasonref_ShapeSize.f k x.f4 d) (sz j x.f4))) →
      (0 ≤ a.1 ∧ a.1 + l.length * (2 * MB j) ≤ 2500000000000000000 ∧ 0 ≤ a.2.1 ∧ a.2.1 + l.length * (3518437208808 + 2 * SB j) ≤ 2500000000000000000 ∧ 0 ≤ a.2.2 ∧ a.2.2 ≤ 6) → d - 1 ≤ a.2.2 →
    Ev (fun k => sizeLoop (fun p => shape_size.f k p d) l a) (szLoop (sz j) l a) ∧ Ev (fun k => ssLoop (fun p => codemasonref_ShapeSize.f k p d) l a) (szLoop (sz j) l a)
  | [], a, _, _, _ => ⟨Ev.now _, Ev.now _⟩
  | x :: t, a, hx, ha, hd3 => by
    obtain ⟨h2, h3, h4, g3, g4⟩ := hx x (by simp)
    have hM := MB_pos j
    have hS := SB_pos j
    have e1 : ((x :: t).length : Int) * (2 * MB j) = t.length * (2 * MB j) + 2 * MB j := by rw [List.length_cons]; push_cast; rw [Int.add_mul, Int.one_mul]
    have e2 : ((x :: t).length : Int) * (3518437208808 + 2 * SB j) = t.length * (3518437208808 + 2 * SB j) + (3518437208808 + 2 * SB j) := by rw [List.length_cons]; push_cast; rw [Int.add_mul, Int.one_mul]
    rw [e1, e2] at ha
    have n1 : 0 ≤ (t.length : Int) * (2 * MB j) := Int.mul_nonneg (by omega) (by omega)
    have n2 : 0 ≤ (t.length : Int) * (3518437208808 + 2 * SB j) := Int.mul_nonneg (by omega) (by omega)
    have w0 : wrap64 (a.2.1 + (x.f2.length : Int)) = a.2.1 + x.f2.length := wrap_in (by omega) (by omega)
    have b1 := szPart_bd h3 (a := (a.1, a.2.1 + x.f2.length, a.2.2)) (m := a.1) (s := a.2.1 + 3518437208808) ⟨ha.1, Int.le_refl _, by show 0 ≤ _ + _; omega, by show _ + _ ≤ _; omega, ha.2.2.2.2.1, ha.2.2.2.2.2⟩
    have b2 := szPart_bd h4 b1
    have ih := loop_ev hj hd t (szPart (sz j) x.f4 (szPart (sz j) x.f3 (a.1, a.2.1 + x.f2.length, a.2.2))) (fun y hy => hx y (List.mem_cons_of_mem _ hy)) ⟨b2.1, by omega, b2.2.2.1, by omega, b2.2.2.2.2⟩ (Int.le_trans hd3 (Int.le_trans (szPart_deep (go := sz j) (p := x.f3) (a := (a.1, a.2.1 + x.f2.length, a.2.2))) szPart_deep))
    simp only [sizeLoop, ssLoop, szLoop, sizeParts, ssParts, w0, Option.bind_assoc, Option.bind_some]
    refine ⟨Ev.bind (part_ev hj (fun h => (g3 h).1) h3 ⟨ha.1, by show a.1 ≤ _; omega, by show 0 ≤ _ + _; omega, by show _ + _ ≤ _; omega⟩) (Ev.bind (part_ev hj (fun h => (g4 h).1) h4 ⟨b1.1, by omega, b1.2.2.1, by omega⟩) ih.1),
      Ev.bind (sspart_ev hj (fun h => (g3 h).2) hd h3 ⟨ha.1, by show a.1 ≤ _; omega, by show 0 ≤ _ + _; omega, by show _ + _ ≤ _; omega⟩ hd3) (Ev.bind (sspart_ev hj (fun h => (g4 h).2) hd h4 ⟨b1.1, by omega, b1.2.2.1, by omega⟩ (Int.le_trans hd3 (szPart_deep (go := sz j) (p := x.f3) (a := (a.1, a.2.1 + x.f2.length, a.2.2))))) ih.2)⟩
theorem size_ev : ∀ (j : Nat), j ≤ 5 → ∀ (l : List S127), (∀ x ∈ l, good127 x) → l.length * 88 ≤ 140737488351232 →
    Ev (fun k => shape_size.f k l (6 - j)) (sz j l) ∧ (l ≠ [] → Ev (fun k => codemasonref_ShapeSize.f k l (6 - j)) (sz j l))
  | 0, _, l, _, hl => by
    refine ⟨ev_succ ?_, fun h => ev_succ ?_⟩
    · simp only [shape_size.f]; exact ev_pos (by omega) (Ev.now _)
    · simp only [codemasonref_ShapeSize.f]; exact ev_neg (fun e => h (List.length_eq_zero_iff.1 e)) (ev_pos (by omega) (Ev.now _))
  | j + 1, hj, l, hg, hl => by
    have hM := MB_pos j
    have hS := SB_pos j
    have hM1 := MB_le (j + 1) hj
    have hS1 := SB_le (j + 1) hj
    unfold MB at hM1
    unfold SB at hS1
    have e6 : (6 : Int) - ((j + 1 : Nat) : Int) = 5 - j := by omega
    have w1 : wrap64 ((5 : Int) - j + 1) = 6 - j := by rw [wrap_in (by omega) (by omega)]; omega
    rw [e6]
    by_cases h8 : l.length > 8
    · have es : sz (j + 1) l = ((l.length : Int), 0, (5 : Int) - j) := by unfold sz; rw [if_pos h8]
      rw [es]
      refine ⟨ev_succ ?_, fun h => ev_succ ?_⟩
      · simp only [shape_size.f]; exact ev_pos (by omega) (Ev.now _)
      · simp only [codemasonref_ShapeSize.f]; exact ev_neg (by omega) (ev_pos (by omega) (Ev.now _))
    · have es : sz (j + 1) l = szLoop (sz j) l (l.length, 0, 5 - j) := by rw [sz, if_neg h8]
      have m1 : (l.length : Int) * (2 * MB j) ≤ 8 * (2 * MB j) := Int.mul_le_mul_of_nonneg_right (by omega) (by omega)
      have m2 : (l.length : Int) * (3518437208808 + 2 * SB j) ≤ 8 * (3518437208808 + 2 * SB j) := Int.mul_le_mul_of_nonneg_right (by omega) (by omega)
      have lp := loop_ev (j := j) (by omega) (d := 6 - j) (by omega) l (l.length, 0, 5 - j) (fun x hx => by
        obtain ⟨⟨_, _, _, f2, f3, f4⟩, g3, g4⟩ := (hg x hx).parts
        have r3 := size_ev j (by omega) x.f3 g3 f3
        have r4 := size_ev j (by omega) x.f4 g4 f4
        exact ⟨f2, sz_bd j (by omega) x.f3 g3 f3, sz_bd j (by omega) x.f4 g4 f4, fun h => ⟨r3.1, r3.2 h⟩, fun h => ⟨r4.1, r4.2 h⟩⟩)
        ⟨by show (0 : Int) ≤ l.length; omega, by show (l.length : Int) + _ ≤ _; omega, Int.le_refl (0 : Int), by show (0 : Int) + _ ≤ _; omega, by show (0 : Int) ≤ 5 - j; omega, by show (5 : Int) - j ≤ 6; omega⟩ (by show (6 : Int) - j - 1 ≤ 5 - j; omega)
      rw [es]
      refine ⟨ev_succ ?_, fun h => ev_succ ?_⟩
      · simp only [shape_size.f, w1]; exact ev_neg (by omega) lp.1
      · simp only [codemasonref_ShapeSize.f, w1]; exact ev_neg (fun e => h (List.length_eq_zero_iff.1 e)) (ev_neg (by omega) lp.2)

/-- No code of more than 20 steps, and no more than j levels. -/
def small : Nat → List S127 → Prop
  | 0, l => l = []
  | j + 1, l => ∀ x ∈ l, x.f2.length ≤ 20 ∧ small j x.f3 ∧ small j x.f4
theorem small_nil : ∀ j, small j []
  | 0 => rfl
  | j + 1 => fun x hx => absurd hx (by simp)
def Le3 (a b : Int × Int × Int) : Prop := a.1 ≤ b.1 ∧ a.2.1 ≤ b.2.1 ∧ a.2.2 ≤ b.2.2
theorem Le3.trans {a b c : Int × Int × Int} (h : Le3 a b) (k : Le3 b c) : Le3 a c := ⟨Int.le_trans h.1 k.1, Int.le_trans h.2.1 k.2.1, Int.le_trans h.2.2 k.2.2⟩
theorem szPart_ge {go : List S127 → Int × Int × Int} {p : List S127} {a : Int × Int × Int} (hp : 0 ≤ (go p).1 ∧ 0 ≤ (go p).2.1) (ha : 0 ≤ a.1 ∧ 0 ≤ a.2.1) : Le3 a (szPart go p a) ∧ (p ≠ [] → Le3 (go p) (szPart go p a)) := by
  unfold szPart
  split
  · exact ⟨⟨Int.le_refl _, Int.le_refl _, Int.le_refl _⟩, fun h => absurd ‹_› h⟩
  · refine ⟨⟨by show a.1 ≤ _ + _; omega, by show a.2.1 ≤ _ + _; omega, by show _ ≤ mx _ _; unfold mx; split <;> omega⟩, fun _ => ⟨by show _ ≤ a.1 + _; omega, by show _ ≤ a.2.1 + _; omega, by show _ ≤ mx _ _; unfold mx; split <;> omega⟩⟩
theorem szLoop_ge {go : List S127 → Int × Int × Int} : ∀ (l : List S127) (a : Int × Int × Int), (∀ x ∈ l, (0 ≤ (go x.f3).1 ∧ 0 ≤ (go x.f3).2.1) ∧ 0 ≤ (go x.f4).1 ∧ 0 ≤ (go x.f4).2.1) → (0 ≤ a.1 ∧ 0 ≤ a.2.1) →
    Le3 a (szLoop go l a) ∧ ∀ x ∈ l, (x.f2.length : Int) ≤ (szLoop go l a).2.1 ∧ (x.f3 ≠ [] → Le3 (go x.f3) (szLoop go l a)) ∧ (x.f4 ≠ [] → Le3 (go x.f4) (szLoop go l a))
  | [], a, _, _ => ⟨⟨Int.le_refl _, Int.le_refl _, Int.le_refl _⟩, fun x hx => absurd hx (by simp)⟩
  | x :: t, a, hx, ha => by
    obtain ⟨h3, h4⟩ := hx x (by simp)
    have p1 := szPart_ge h3 (a := (a.1, a.2.1 + x.f2.length, a.2.2)) ⟨ha.1, by show 0 ≤ _ + _; omega⟩
    have p2 := szPart_ge h4 (a := szPart go x.f3 (a.1, a.2.1 + x.f2.length, a.2.2)) ⟨by have := p1.1.1; have := ha.1; simp only at *; omega, by have := p1.1.2.1; have := ha.2; simp only at *; omega⟩
    have ih := szLoop_ge t (szPart go x.f4 (szPart go x.f3 (a.1, a.2.1 + x.f2.length, a.2.2))) (fun y hy => hx y (List.mem_cons_of_mem _ hy)) ⟨by have := p1.1.1; have := p2.1.1; have := ha.1; simp only at *; omega, by have := p1.1.2.1; have := p2.1.2.1; have := ha.2; simp only at *; omega⟩
    have q1 : Le3 a (a.1, a.2.1 + (x.f2.length : Int), a.2.2) := ⟨Int.le_refl _, by show a.2.1 ≤ _ + _; omega, Int.le_refl _⟩
    refine ⟨q1.trans (p1.1.trans (p2.1.trans ih.1)), fun y hy => ?_⟩
    rcases List.mem_cons.1 hy with rfl | hy
    · have h := (p1.1.trans (p2.1.trans ih.1)).2.1
      exact ⟨by have := ha.2; simp only at h; show _ ≤ (szLoop go t _).2.1; omega, fun h => (p1.2 h).trans (p2.1.trans ih.1), fun h => (p2.2 h).trans ih.1⟩
    · exact ih.2 y hy
theorem small_of : ∀ (j : Nat), j ≤ 5 → ∀ (l : List S127), (∀ x ∈ l, good127 x) → l.length * 88 ≤ 140737488351232 → l ≠ [] → (sz j l).1 ≤ 8 → (sz j l).2.1 ≤ 20 → (sz j l).2.2 ≤ 5 → small j l
  | 0, _, l, _, _, _, _, _, h => absurd h (by show ¬ ((6 : Int) ≤ 5); decide)
  | j + 1, hj, l, hg, hl, hn, h1, h2, h3 => by
    by_cases h8 : l.length > 8
    · rw [sz, if_pos h8] at h1
      exact absurd h1 (by show ¬ ((l.length : Int) ≤ 8); omega)
    · rw [sz, if_neg h8] at h1 h2 h3
      have g := szLoop_ge (go := sz j) l (l.length, 0, 5 - j) (fun x hx => by
        obtain ⟨⟨_, _, _, f2, f3, f4⟩, g3, g4⟩ := (hg x hx).parts
        have b3 := sz_bd j (by omega) x.f3 g3 f3
        have b4 := sz_bd j (by omega) x.f4 g4 f4
        exact ⟨⟨b3.1, b3.2.2.1⟩, b4.1, b4.2.2.1⟩) ⟨by show (0 : Int) ≤ l.length; omega, Int.le_refl (0 : Int)⟩
      intro x hx
      obtain ⟨⟨_, _, _, f2, f3, f4⟩, g3, g4⟩ := (hg x hx).parts
      obtain ⟨k1, k2, k3⟩ := g.2 x hx
      refine ⟨by omega, ?_, ?_⟩
      · by_cases e : x.f3 = []
        · rw [e]; exact small_nil j
        · have := k2 e; exact small_of j (by omega) x.f3 g3 f3 e (Int.le_trans this.1 h1) (Int.le_trans this.2.1 h2) (Int.le_trans this.2.2 h3)
      · by_cases e : x.f4 = []
        · rw [e]; exact small_nil j
        · have := k3 e; exact small_of j (by omega) x.f4 g4 f4 e (Int.le_trans this.1 h1) (Int.le_trans this.2.1 h2) (Int.le_trans this.2.2 h3)

/-- Shapes that may be: what Check asks of each. -/
def okS (v : Int) : Nat → List S127 → Prop
  | 0, l => l = []
  | j + 1, l => ∀ x ∈ l, (x.f2.length ≤ 20 ∧ 1 ≤ x.f0 ∧ x.f0 ≤ 3 ∧ (x.f0 = 1 → stepsErr v x.f2 = 0) ∧ (x.f0 ≠ 1 → 0 ≤ x.f1 ∧ x.f1 < v)) ∧ okS v j x.f3 ∧ okS v j x.f4
theorem own_eq {v : Int} (h1 : 1 ≤ v) (h6 : v ≤ 6) {x : S127} (hx : x.f2.length ≤ 20) : shapeOwn v x = kindOwn v x := by
  have hw : wrap64 (0 + (x.f2.length : Int)) = x.f2.length := by rw [wrap_in (by omega) (by omega)]; omega
  have hb : blockCheck v [⟨x.f2, -1, -1, 0⟩] = stepsErr v x.f2 := by
    unfold blockCheck
    rw [if_neg (by simp only [List.length_cons, List.length_nil, manyOf, hw]; omega)]
    simp only [blocksErr, blockErr, insB]
    by_cases e : stepsErr v x.f2 = 0
    · simp [e]; omega
    · simp [e]
  unfold shapeOwn kindOwn
  rw [hb]
  grind
theorem own_zero {v : Int} {x : S127} : kindOwn v x = 0 ↔ 1 ≤ x.f0 ∧ x.f0 ≤ 3 ∧ (x.f0 = 1 → stepsErr v x.f2 = 0) ∧ (x.f0 ≠ 1 → 0 ≤ x.f1 ∧ x.f1 < v) := by
  unfold kindOwn
  grind
theorem kinds_ev {v : Int} (h1 : 1 ≤ v) (h6 : v ≤ 6) : ∀ (j : Nat) (l : List S127), small j l → ∃ r, Ev (fun k => shape_shapes.f k v l) r ∧ Ev (fun k => codemasonref_shapeKinds.f k v l) r ∧ (r = 0 → okS v j l)
  | 0, l, h => by
    obtain rfl : l = [] := h
    refine ⟨0, ev_succ ?_, ev_succ ?_, fun _ => rfl⟩
    · simp only [shape_shapes.f, shapesLoop]; exact Ev.now _
    · simp only [codemasonref_shapeKinds.f, shapesLoop]; exact Ev.now _
  | j + 1, l, h => by
    have key : ∀ (l : List S127), (∀ x ∈ l, x.f2.length ≤ 20 ∧ small j x.f3 ∧ small j x.f4) → ∃ r, Ev (fun k => shapesLoop (shapeOwn v) (fun p => shape_shapes.f k v p) l) r ∧ Ev (fun k => shapesLoop (kindOwn v) (fun p => codemasonref_shapeKinds.f k v p) l) r ∧ (r = 0 → okS v (j + 1) l) := by
      intro l
      induction l with
      | nil => exact fun _ => ⟨0, Ev.now _, Ev.now _, fun _ x hx => absurd hx (by simp)⟩
      | cons x t iht =>
        intro hs
        obtain ⟨h2, h3, h4⟩ := hs x (by simp)
        obtain ⟨rt, t1, t2, t3⟩ := iht (fun y hy => hs y (List.mem_cons_of_mem _ hy))
        obtain ⟨r3, a1, a2, a3⟩ := kinds_ev h1 h6 j x.f3 h3
        obtain ⟨r4, b1, b2, b3⟩ := kinds_ev h1 h6 j x.f4 h4
        have ho := own_eq h1 h6 h2
        simp only [shapesLoop, shapesParts, ho]
        by_cases e : kindOwn v x = 0
        · by_cases e3 : r3 = 0
          · by_cases e4 : r4 = 0
            · refine ⟨rt, ev_pos e (Ev.bind (a := 0) (Ev.bind a1 (ev_pos e3 (Ev.bind b1 (ev_pos e4 (Ev.now _))))) (ev_pos rfl t1)), ev_pos e (Ev.bind (a := 0) (Ev.bind a2 (ev_pos e3 (Ev.bind b2 (ev_pos e4 (Ev.now _))))) (ev_pos rfl t2)), fun hr y hy => ?_⟩
              rcases List.mem_cons.1 hy with rfl | hy
              · exact ⟨⟨h2, own_zero.1 e⟩, a3 e3, b3 e4⟩
              · exact t3 hr y hy
            · exact ⟨r4, ev_pos e (Ev.bind (a := r4) (Ev.bind a1 (ev_pos e3 (Ev.bind b1 (ev_neg e4 (Ev.now _))))) (ev_neg e4 (Ev.now _))), ev_pos e (Ev.bind (a := r4) (Ev.bind a2 (ev_pos e3 (Ev.bind b2 (ev_neg e4 (Ev.now _))))) (ev_neg e4 (Ev.now _))), fun hr => absurd hr e4⟩
          · exact ⟨r3, ev_pos e (Ev.bind (a := r3) (Ev.bind a1 (ev_neg e3 (Ev.now _))) (ev_neg e3 (Ev.now _))), ev_pos e (Ev.bind (a := r3) (Ev.bind a2 (ev_neg e3 (Ev.now _))) (ev_neg e3 (Ev.now _))), fun hr => absurd hr e3⟩
        · exact ⟨kindOwn v x, ev_neg e (Ev.now _), ev_neg e (Ev.now _), fun hr => absurd hr e⟩
    obtain ⟨r, k1, k2, k3⟩ := key l h
    refine ⟨r, ev_succ ?_, ev_succ ?_, k3⟩
    · simp only [shape_shapes.f]; exact k1
    · simp only [codemasonref_shapeKinds.f]; exact k2
/-- Both checks come to the same; where they find nothing, the shapes may be. -/
theorem shapeCheck_ev (v : Int) (l : List S127) (hg : ∀ x ∈ l, good127 x) (hl : l.length * 88 ≤ 140737488351232) :
    ∃ r, Ev (fun k => shape_Check.f k v l) r ∧ Ev (fun k => codemasonref_ShapeCheck.f k v l) r ∧ (r = 0 → 1 ≤ v ∧ v ≤ 6 ∧ okS v 5 l ∧ (l = [] ∨ (sz 5 l).1 ≤ 8 ∧ (sz 5 l).2.1 ≤ 20)) := by
  unfold shape_Check.f codemasonref_ShapeCheck.f
  obtain ⟨s1, s2⟩ := size_ev 5 (by omega) l hg hl
  have e1 : (6 : Int) - ((5 : Nat) : Int) = 1 := rfl
  rw [e1] at s1 s2
  by_cases hn : l = []
  · subst hn
    have s2 : Ev (fun k => codemasonref_ShapeSize.f k [] 1) (0, 0, 0) := ev_succ (by simp only [codemasonref_ShapeSize.f, List.length_nil, if_true]; exact ev_some (by rw [wrap_in (by decide) (by decide)]; rfl))
    by_cases hv : 1 ≤ v ∧ v ≤ 6
    · obtain ⟨r, k1, k2, k3⟩ := kinds_ev hv.1 hv.2 5 [] (small_nil 5)
      exact ⟨r, Ev.bind s1 (ev_neg (by omega) (ev_neg (by omega) (ev_neg (by decide) (ev_neg (by decide) (ev_neg (by decide) (Ev.bind k1 (Ev.now _))))))), Ev.bind s2 (ev_neg (by omega) (ev_neg (by omega) (ev_neg (by decide) (ev_neg (by decide) (ev_neg (by decide) (Ev.bind k2 (Ev.now _))))))), fun h => ⟨hv.1, hv.2, k3 h, .inl rfl⟩⟩
    · exact ⟨1, Ev.bind s1 (ev_ite (fun _ => Ev.now _) (fun h => ev_pos (by omega) (Ev.now _))), Ev.bind s2 (ev_ite (fun _ => Ev.now _) (fun h => ev_pos (by omega) (Ev.now _))), fun h => absurd h (by decide)⟩
  · have s2 := s2 hn
    generalize hq : sz 5 l = q at s1 s2
    by_cases hc : 1 ≤ v ∧ v ≤ 6 ∧ q.1 ≤ 8 ∧ q.2.1 ≤ 20 ∧ q.2.2 ≤ 5
    · obtain ⟨c1, c2, c3, c4, c5⟩ := hc
      obtain ⟨r, k1, k2, k3⟩ := kinds_ev c1 c2 5 l (small_of 5 (by omega) l hg hl hn (by rw [hq]; exact c3) (by rw [hq]; exact c4) (by rw [hq]; exact c5))
      exact ⟨r, Ev.bind s1 (ev_neg (by omega) (ev_neg (by omega) (ev_neg (by omega) (ev_neg (by omega) (ev_neg (by omega) (Ev.bind k1 (Ev.now _))))))), Ev.bind s2 (ev_neg (by omega) (ev_neg (by omega) (ev_neg (by omega) (ev_neg (by omega) (ev_neg (by omega) (Ev.bind k2 (Ev.now _))))))), fun h => ⟨c1, c2, k3 h, .inr ⟨c3, c4⟩⟩⟩
    · refine ⟨1, Ev.bind s1 ?_, Ev.bind s2 ?_, fun h => absurd h (by decide)⟩
      all_goals exact ev_ite (fun _ => Ev.now _) (fun _ => ev_ite (fun _ => Ev.now _) (fun _ => ev_ite (fun _ => Ev.now _) (fun _ => ev_ite (fun _ => Ev.now _) (fun _ => ev_ite (fun _ => Ev.now _) (fun _ => absurd hc (by omega))))))
end Go.Proofs.Ytaicamjpcnhjcaa.PA
