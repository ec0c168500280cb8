/- Texts of one proof, merged: PA2, Pu4, Pu6, PureShapeRuns. -/
import Derived.Test.YtaicamjpcnhjcaaMShapeRuns6
import Derived.ProofKit
import Derived.OpenShut
import Derived.ChangeOld
import Derived.SizedLaws
import Derived.Deep.Slices
import Derived.Lib.SmallJoins
namespace Go.Proofs.Ytaicamjpcnhjcaa.PA
open Go.RowKit Go.Proofs.YtaicamjpcnhjcaaW.PrintWords Go.Proofs.YtaicamjpcnhjcaaW.PrintLast Go.Proofs.YtaicamjpcnhjcaaW.PrintMore
set_option linter.unusedVariables false
set_option linter.unusedSimpArgs false
def in64 (x : Int) : Prop := -9223372036854775808 ≤ x ∧ x ≤ 9223372036854775807
theorem in64_of {x : Int} (h : (Lit.int .i64 x).wf = true) : in64 x := by
  simp [Lit.wf, IntKind.min, IntKind.max, IntKind.bits, IntKind.signed] at h
  unfold in64
  omega
def good111 (s : S111) : Prop := in64 s.f0 ∧ in64 s.f1 ∧ in64 s.f2 ∧ in64 s.f3 ∧ in64 s.f4
theorem list5 {α : Type} : ∀ (l : List α), l.length = 5 → ∃ a b c d e, l = [a, b, c, d, e]
  | [a, b, c, d, e], _ => ⟨a, b, c, d, e, rfl⟩
def fit127 (x : S127) : Prop := in64 x.f0 ∧ in64 x.f1 ∧ (∀ s ∈ x.f2, good111 s) ∧ x.f2.length * 40 ≤ 140737488351232 ∧ x.f3.length * 88 ≤ 140737488351232 ∧ x.f4.length * 88 ≤ 140737488351232
def good127 (x : S127) : Prop := ∀ Q : S127 → Prop, (∀ y, fit127 y → (∀ z ∈ y.f3, Q z) → (∀ z ∈ y.f4, Q z) → Q y) → Q x
theorem good127.mk {x : S127} (h : fit127 x) (h3 : ∀ z ∈ x.f3, good127 z) (h4 : ∀ z ∈ x.f4, good127 z) : good127 x := fun Q hQ => hQ x h (fun z hz => h3 z hz Q hQ) (fun z hz => h4 z hz Q hQ)
theorem good127.parts {x : S127} (h : good127 x) : fit127 x ∧ (∀ z ∈ x.f3, good127 z) ∧ ∀ z ∈ x.f4, good127 z :=
  h (fun x => fit127 x ∧ (∀ z ∈ x.f3, good127 z) ∧ ∀ z ∈ x.f4, good127 z) (fun y hy h3 h4 => ⟨hy, fun z hz => good127.mk (h3 z hz).1 (h3 z hz).2.1 (h3 z hz).2.2, fun z hz => good127.mk (h4 z hz).1 (h4 z hz).2.1 (h4 z hz).2.2⟩)
theorem good127.ind {x : S127} (h : good127 x) {Q : S127 → Prop} (hQ : ∀ y, good127 y → (∀ z ∈ y.f3, Q z) → (∀ z ∈ y.f4, Q z) → Q y) : Q x :=
  (h (fun y => good127 y ∧ Q y) (fun y hy h3 h4 => ⟨good127.mk hy (fun z hz => (h3 z hz).1) (fun z hz => (h4 z hz).1), hQ y (good127.mk hy (fun z hz => (h3 z hz).1) (fun z hz => (h4 z hz).1)) (fun z hz => (h3 z hz).2) (fun z hz => (h4 z hz).2)⟩)).2
section
variable {H : Type} {enc : TypeId × Value → H} {w : World} {base : Nat} {spare : Nat → Bool} {held : Bool}
def Fits (t : TypeId) (x : DataW H) : Prop := ∀ n ∈ x.weights Try.prog t, n ≤ reachBytes
def Rdr (H : Type) (enc : TypeId × Value → H) (w : World) (base : Nat) (spare : Nat → Bool) (held : Bool) {α : Type} (d : Kd α) (t : TypeId) (G : α → Prop) (n : Nat) : Prop :=
  ∀ cs x, DataW.trod enc Try.prog w base spare held n t cs = some x → Fits t x.1 → ∃ v, d.K w v cs ∧ G v
theorem weights_mem_all {e : TypeId} : ∀ {ds : List (DataW H)} {d : DataW H}, d ∈ ds → ∀ n ∈ d.weights Try.prog e, n ∈ DataW.weightsAll Try.prog e ds
  | d :: r, d', hd, n, hn => by
    simp only [DataW.weightsAll, List.mem_append]
    rcases List.mem_cons.1 hd with rfl | hd
    · exact .inl hn
    · exact .inr (weights_mem_all hd n hn)
theorem addr_add_add (a : Addr) (i j : Nat) : (a.add i).add j = a.add (i + j) := by
  unfold Addr.add
  by_cases h1 : i = 0 <;> by_cases h2 : j = 0 <;> simp [h1, h2, Nat.add_assoc]
theorem list_of {α : Type} (Q : Nat → α → Prop) : ∀ n, (∀ i, i < n → ∃ v, Q i v) → ∃ l : List α, l.length = n ∧ ∀ i v, l[i]? = some v → Q i v
  | 0, _ => ⟨[], rfl, fun i v h => by simp at h⟩
  | n + 1, h => by
    obtain ⟨l, hl, hq⟩ := list_of Q n (fun i hi => h i (by omega))
    obtain ⟨v, hv⟩ := h n (by omega)
    refine ⟨l ++ [v], by simp [hl], fun i u hu => ?_⟩
    rcases Nat.lt_or_ge i n with hi | hi
    · rw [List.getElem?_append_left (by omega)] at hu
      exact hq i u hu
    · rw [List.getElem?_append_right (by omega), hl] at hu
      have h0 : i - n = 0 := by
        have := (List.getElem?_eq_some_iff.1 hu).1
        simp at this
        omega
      rw [h0] at hu
      obtain rfl : v = u := by simpa using hu
      obtain rfl : i = n := by omega
      exact hv
theorem rdr_row {α : Type} {d : Kd α} {t e : TypeId} {G : α → Prop} {n : Nat} (ht : Try.prog.underlying t = some (.slice e)) (hc : Try.prog.cellsOf e = d.sz) (hd : ∀ m, m < n → Rdr H enc w base spare held d e G m)
    {B : Nat} (hB : Try.prog.bytesOf e = B) {cs : List Value} {x} (h : DataW.trod enc Try.prog w base spare held n t cs = some x) (hfit : Fits t x.1) :
    ∃ A len cap l, cs = [.slice A len cap] ∧ len ≤ cap ∧ List.length l = len ∧ d.C w A len l ∧ (∀ y ∈ l, G y) ∧ len * B ≤ 140737488351232 := by
  rcases DataW.trod_slice ht h with ⟨rfl, _⟩ | ⟨a, len, cap, elems, rest, m, rfl, rfl, hx, hb, hl, hm, hlen, hel, _⟩
  · exact ⟨none, 0, 0, [], rfl, Nat.le_refl _, rfl, ⟨rfl, by omega, fun h => absurd h (by omega)⟩, fun y hy => absurd hy (by simp), by omega⟩
  · have hq : ∀ i, i < len → ∃ v, (∃ c, c.length = d.sz ∧ d.K w v c ∧ ∀ j u, c[j]? = some u → w.cell? (a.add (i * d.sz + j)) = some u) ∧ G v := by
      intro i hi
      have h1 := hel i hi
      rw [List.getElem?_eq_getElem (by omega), Option.bind_eq_some_iff] at h1
      obtain ⟨c, hcell, htr⟩ := h1
      have hfe : Fits e (elems[i]'(by omega)).1 := fun n hn => hfit n (by
        rw [hx]
        simp only [DataW.weights, ht, List.mem_cons, List.mem_append]
        exact .inr (.inl (weights_mem_all (List.mem_map_of_mem (List.getElem_mem _)) n hn)))
      obtain ⟨v, hK, hG⟩ := hd m (by omega) c _ htr hfe
      obtain ⟨_, hcl, hcs⟩ := World.cells?_some hcell
      refine ⟨v, ⟨c, d.K_len hK, hK, fun j u hu => ?_⟩, hG⟩
      have hj : j < d.sz := by have := (List.getElem?_eq_some_iff.1 hu).1; rw [d.K_len hK] at this; exact this
      have hcj := hcs j (by rw [hc]; exact hj)
      rw [hc] at hcj
      rw [← addr_add_add, hcj]
      exact hu
    obtain ⟨l, hll, hq⟩ := list_of _ len hq
    refine ⟨some a, len, cap, l, rfl, hl, hll, ⟨hll, by unfold maxLen at hm; omega, fun _ => ⟨a, rfl, fun j p hp => (hq j p hp).1⟩⟩, fun y hy => ?_, ?_⟩
    rotate_left
    · have z := hfit ((elems.length + rest.length) * Try.prog.bytesOf e) (by rw [hx]; simp [DataW.weights, ht])
      rw [hB, hlen] at z
      exact Nat.le_trans (Nat.mul_le_mul_right _ (by omega)) z
    obtain ⟨i, hi⟩ := List.getElem?_of_mem hy
    exact (hq i y hi).2
theorem rdr_int {k : IntKind} {t : TypeId} (ht : Try.prog.underlying t = some (.int k)) {n : Nat} {cs : List Value} {x} (h : DataW.trod enc Try.prog w base spare held n t cs = some x) : ∃ v, cs = [.int k v] ∧ (Lit.int k v).wf = true := by
  obtain ⟨v, e, _, hw⟩ := DataW.trod_int ht h
  exact ⟨v, e, hw⟩
theorem cells111 : Try.prog.cellsOf 111 = 5 := by kernel_rfl
theorem cells3 : Try.prog.cellsOf 3 = 1 := by kernel_rfl
theorem bytes111 : Try.prog.bytesOf 111 = 40 := by kernel_rfl
theorem bytes127 : Try.prog.bytesOf 127 = 88 := by kernel_rfl
theorem cells127 : Try.prog.cellsOf 127 = 5 := by kernel_rfl
theorem cells22 : Try.prog.cellsOf 22 = 1 := by kernel_rfl
theorem cells77 : Try.prog.cellsOf 77 = 1 := by kernel_rfl
theorem field_of {t : TypeId} {fs : Array Field} {n : Nat} {cs : List Value} {x} (ht : Try.prog.underlying t = some (.struct fs)) (h : DataW.trod enc Try.prog w base spare held n t cs = some x) (hfit : Fits t x.1) :
    cs.length = Try.prog.cellsOf t ∧ ∃ m, m < n ∧ ∀ (i : Nat) (t o : Nat), (fs[i]?).map (fun f => (f.type, f.offset)) = some (t, o) → ∃ y, DataW.trod enc Try.prog w base spare held m t ((cs.drop o).take (Try.prog.cellsOf t)) = some y ∧ Fits t y.1 := by
  obtain ⟨xs, m, rfl, hx, hl, hxs, hf⟩ := DataW.trod_struct ht h
  refine ⟨hl, m, by omega, fun i t o hi => ?_⟩
  obtain ⟨f, hi2, hh⟩ := Option.map_eq_some_iff.1 hi
  simp only [Prod.mk.injEq] at hh
  obtain ⟨rfl, rfl⟩ := hh
  have hlt : i < xs.length := by rw [hxs]; exact (Array.getElem?_eq_some_iff.1 hi2).1
  refine ⟨xs[i], by rw [hf i f hi2, List.getElem?_eq_getElem hlt], fun k hk => hfit k ?_⟩
  rw [hx]
  simp only [DataW.weights, ht]
  refine DataW.weights_mem_each (j := i) (t := f.type) (d := xs[i].1) ?_ ?_ k hk
  · rw [List.getElem?_map, Array.getElem?_toList, hi2]; rfl
  · rw [List.getElem?_map, List.getElem?_eq_getElem hlt]; rfl
theorem rdr111 (n : Nat) : Rdr H enc w base spare held k111 111 good111 n := by
  intro cs x h hfit
  obtain ⟨hl, m, hm, hf⟩ := field_of Try.underlying111 h hfit
  rw [cells111] at hl
  obtain ⟨c0, c1, c2, c3, c4, rfl⟩ := list5 cs hl
  obtain ⟨y0, h0, f0⟩ := hf 0 3 0 rfl
  obtain ⟨y1, h1, f1⟩ := hf 1 3 1 rfl
  obtain ⟨y2, h2, f2⟩ := hf 2 3 2 rfl
  obtain ⟨y3, h3, f3⟩ := hf 3 3 3 rfl
  obtain ⟨y4, h4, f4⟩ := hf 4 3 4 rfl
  simp only [cells3] at h0 h1 h2 h3 h4
  obtain ⟨v0, e0, w0⟩ := rdr_int Try.underlying3 h0
  obtain ⟨v1, e1, w1⟩ := rdr_int Try.underlying3 h1
  obtain ⟨v2, e2, w2⟩ := rdr_int Try.underlying3 h2
  obtain ⟨v3, e3, w3⟩ := rdr_int Try.underlying3 h3
  obtain ⟨v4, e4, w4⟩ := rdr_int Try.underlying3 h4
  simp at e0 e1 e2 e3 e4
  subst e0 e1 e2 e3 e4
  exact ⟨⟨v0, v1, v2, v3, v4⟩, k111_mk w _, in64_of w0, in64_of w1, in64_of w2, in64_of w3, in64_of w4⟩
theorem rdr127 (n : Nat) : Rdr H enc w base spare held k127 127 good127 n := by
  induction n using Nat.strongRecOn with
  | ind n ih =>
    intro cs x h hfit
    obtain ⟨hl, m, hm, hf⟩ := field_of Try.underlying127 h hfit
    rw [cells127] at hl
    obtain ⟨c0, c1, c2, c3, c4, rfl⟩ := list5 cs hl
    obtain ⟨y0, h0, f0⟩ := hf 0 3 0 rfl
    obtain ⟨y1, h1, f1⟩ := hf 1 3 1 rfl
    obtain ⟨y2, h2, f2⟩ := hf 2 77 2 rfl
    obtain ⟨y3, h3, f3⟩ := hf 3 22 3 rfl
    obtain ⟨y4, h4, f4⟩ := hf 4 22 4 rfl
    simp only [cells3, cells77, cells22] at h0 h1 h2 h3 h4
    obtain ⟨v0, e0, w0⟩ := rdr_int Try.underlying3 h0
    obtain ⟨v1, e1, w1⟩ := rdr_int Try.underlying3 h1
    obtain ⟨A2, len2, cap2, l2, e2, hc2, rfl, hC2, hG2, hs2⟩ := rdr_row (d := k111) (G := good111) Try.underlying77 cells111 (fun m _ => rdr111 m) bytes111 h2 f2
    obtain ⟨A3, len3, cap3, l3, e3, hc3, rfl, hC3, hG3, hs3⟩ := rdr_row (d := k127) (G := good127) Try.underlying22 cells127 (fun q hq => ih q (by omega)) bytes127 h3 f3
    obtain ⟨A4, len4, cap4, l4, e4, hc4, rfl, hC4, hG4, hs4⟩ := rdr_row (d := k127) (G := good127) Try.underlying22 cells127 (fun q hq => ih q (by omega)) bytes127 h4 f4
    simp at e0 e1 e2 e3 e4
    subst e0 e1 e2 e3 e4
    exact ⟨⟨v0, v1, l2, l3, l4⟩, k127_mk w ⟨v0, v1, l2, l3, l4⟩ hc2 hC2 hc3 hC3 hc4 hC4, good127.mk ⟨in64_of w0, in64_of w1, hG2, hs2, hs3, hs4⟩ hG3 hG4⟩
theorem open_row {α : Type} {d : Kd α} {t e : TypeId} {G : α → Prop} (ht : Try.prog.underlying t = some (.slice e)) (hc : Try.prog.cellsOf e = d.sz) (hd : ∀ m, Rdr H enc w base spare held d e G m) {B : Nat} (hB : Try.prog.bytesOf e = B)
    {ts : List TypeId} {ds : List (DataW H)} {j : Nat} {a : Option Addr} {len cap : Nat} {x : DataW H} {ps : List MemPlace} (hsz : (DataW.weightsEach Try.prog ts ds).all (· ≤ reachBytes) = true) (hj : ts[j]? = some t) (hx : ds[j]? = some x)
    (h : DataW.Trod enc Try.prog w base spare held t (.slice a len cap) x ps) : ∃ l, List.length l = len ∧ len ≤ cap ∧ d.C w a len l ∧ (∀ y ∈ l, G y) ∧ l.length * B ≤ 140737488351232 := by
  obtain ⟨fuel, hf⟩ := h
  have hfit : Fits t x := fun n hn => by
    have := List.all_eq_true.1 hsz n (DataW.weights_mem_each hj hx n hn)
    simpa using this
  obtain ⟨A, len', cap', l, hcs, h1, h2, h3, h4, h5⟩ := rdr_row ht hc (fun m _ => hd m) hB hf hfit
  simp [Value.cells] at hcs
  obtain ⟨rfl, rfl, rfl⟩ := hcs
  exact ⟨l, h2, h1, h3, h4, by rw [h2]; exact h5⟩
theorem rdrInt (n : Nat) : Rdr H enc w base spare held (Kd.int .i64) 3 in64 n := by
  intro cs x h _
  obtain ⟨v, rfl, hw⟩ := rdr_int Try.underlying3 h
  exact ⟨v, rfl, in64_of hw⟩
end
end Go.Proofs.Ytaicamjpcnhjcaa.PA
namespace Go.Proofs.Ytaicamjpcnhjcaa.PA
open Go.RowKit Go.Proofs.YtaicamjpcnhjcaaW.PrintWords Go.Proofs.YtaicamjpcnhjcaaW.PrintLast Go.Proofs.YtaicamjpcnhjcaaW.PrintMore
set_option linter.unusedVariables false
set_option linter.unusedSimpArgs false
def szPart (go : List S127 → Int × Int × Int) (p : List S127) (a : Int × Int × Int) : Int × Int × Int :=
  if p = [] then a else (a.1 + (go p).1, a.2.1 + (go p).2.1, mx a.2.2 (go p).2.2)
def szLoop (go : List S127 → Int × Int × Int) : List S127 → Int × Int × Int → Int × Int × Int
  | [], a => a
  | x :: t, a => szLoop go t (szPart go x.f4 (szPart go x.f3 (a.1, a.2.1 + x.f2.length, a.2.2)))
def sz : Nat → List S127 → Int × Int × Int
  | 0, l => (l.length, 0, 6)
  | j + 1, l => if l.length > 8 then (l.length, 0, 5 - j) else szLoop (sz j) l (l.length, 0, 5 - j)
def MB : Nat → Int
  | 0 => 2199023255552
  | j + 1 => 2199023255552 + 16 * MB j
def SB : Nat → Int
  | 0 => 0
  | j + 1 => 28147497670464 + 16 * SB j
theorem MB_pos : ∀ j, 0 ≤ MB j
  | 0 => by decide
  | j + 1 => by have := MB_pos j; unfold MB; omega
theorem SB_pos : ∀ j, 0 ≤ SB j
  | 0 => by decide
  | j + 1 => by have := SB_pos j; unfold SB; omega
def Bd (j : Nat) (a : Int × Int × Int) : Prop := 0 ≤ a.1 ∧ a.1 ≤ MB j ∧ 0 ≤ a.2.1 ∧ a.2.1 ≤ SB j ∧ 0 ≤ a.2.2 ∧ a.2.2 ≤ 6
theorem szPart_bd {go : List S127 → Int × Int × Int} {j : Nat} {p : List S127} (hp : Bd j (go p)) {a : Int × Int × Int} {m s : Int} (ha : 0 ≤ a.1 ∧ a.1 ≤ m ∧ 0 ≤ a.2.1 ∧ a.2.1 ≤ s ∧ 0 ≤ a.2.2 ∧ a.2.2 ≤ 6) :
    0 ≤ (szPart go p a).1 ∧ (szPart go p a).1 ≤ m + MB j ∧ 0 ≤ (szPart go p a).2.1 ∧ (szPart go p a).2.1 ≤ s + SB j ∧ 0 ≤ (szPart go p a).2.2 ∧ (szPart go p a).2.2 ≤ 6 := by
  obtain ⟨h1, h2, h3, h4, h5, h6⟩ := hp
  obtain ⟨k1, k2, k3, k4, k5, k6⟩ := ha
  have := MB_pos j
  have := SB_pos j
  unfold szPart
  split
  · exact ⟨k1, by omega, k3, by omega, k5, k6⟩
  · exact ⟨by show 0 ≤ _ + _; omega, by show _ + _ ≤ _; omega, by show 0 ≤ _ + _; omega, by show _ + _ ≤ _; omega, by show 0 ≤ mx _ _; unfold mx; split <;> omega, by show mx _ _ ≤ 6; unfold mx; split <;> omega⟩
theorem szLoop_bd {go : List S127 → Int × Int × Int} {j : Nat} : ∀ (l : List S127) (a : Int × Int × Int) (m s : Int), (∀ x ∈ l, Bd j (go x.f3) ∧ Bd j (go x.f4) ∧ x.f2.length * 40 ≤ 140737488351232) → (0 ≤ a.1 ∧ a.1 ≤ m ∧ 0 ≤ a.2.1 ∧ a.2.1 ≤ s ∧ 0 ≤ a.2.2 ∧ a.2.2 ≤ 6) →
    0 ≤ (szLoop go l a).1 ∧ (szLoop go l a).1 ≤ m + l.length * (2 * MB j) ∧ 0 ≤ (szLoop go l a).2.1 ∧ (szLoop go l a).2.1 ≤ s + l.length * (3518437208808 + 2 * SB j) ∧ 0 ≤ (szLoop go l a).2.2 ∧ (szLoop go l a).2.2 ≤ 6
  | [], a, m, s, _, ha => by simpa [szLoop] using ha
  | x :: t, a, m, s, hx, ha => by
    obtain ⟨h3, h4, h5⟩ := hx x (by simp)
    have b1 := szPart_bd h3 (a := (a.1, a.2.1 + x.f2.length, a.2.2)) (m := m) (s := s + 3518437208808) ⟨ha.1, ha.2.1, by show 0 ≤ _ + _; omega, by show _ + _ ≤ _; omega, ha.2.2.2.2.1, ha.2.2.2.2.2⟩
    have b2 := szPart_bd h4 b1
    have b3 := szLoop_bd t _ _ _ (fun y hy => hx y (List.mem_cons_of_mem _ hy)) b2
    have e1 : ((x :: t).length : Int) * (2 * MB j) = t.length * (2 * MB j) + 2 * MB j := by rw [List.length_cons]; push_cast; rw [Int.add_mul, Int.one_mul]
    have e2 : ((x :: t).length : Int) * (3518437208808 + 2 * SB j) = t.length * (3518437208808 + 2 * SB j) + (3518437208808 + 2 * SB j) := by rw [List.length_cons]; push_cast; rw [Int.add_mul, Int.one_mul]
    rw [e1, e2]
    exact ⟨b3.1, by show (szLoop go t _).1 ≤ _; omega, b3.2.2.1, by show (szLoop go t _).2.1 ≤ _; omega, b3.2.2.2.2.1, b3.2.2.2.2.2⟩
theorem sz_bd : ∀ (j : Nat), j ≤ 5 → ∀ (l : List S127), (∀ x ∈ l, good127 x) → l.length * 88 ≤ 140737488351232 → Bd j (sz j l)
  | 0, _, l, _, hl => ⟨by show (0 : Int) ≤ l.length; omega, by show (l.length : Int) ≤ 2199023255552; omega, Int.le_refl (0 : Int), Int.le_refl (0 : Int), by show (0 : Int) ≤ 6; decide, by show (6 : Int) ≤ 6; decide⟩
  | j + 1, hj, l, hg, hl => by
    have hM := MB_pos j
    have hS := SB_pos j
    unfold sz
    split
    · exact ⟨by show (0 : Int) ≤ l.length; omega, by show (l.length : Int) ≤ 2199023255552 + 16 * MB j; omega, Int.le_refl (0 : Int), by show (0 : Int) ≤ 28147497670464 + 16 * SB j; omega, by show (0 : Int) ≤ 5 - j; omega, by show (5 : Int) - j ≤ 6; omega⟩
    · have b := szLoop_bd (go := sz j) (j := j) l (l.length, 0, 5 - j) l.length 0 (fun x hx => by
        obtain ⟨⟨_, _, _, f2, f3, f4⟩, g3, g4⟩ := (hg x hx).parts
        exact ⟨sz_bd j (by omega) x.f3 g3 f3, sz_bd j (by omega) x.f4 g4 f4, f2⟩) ⟨by show (0 : Int) ≤ l.length; omega, Int.le_refl _, Int.le_refl _, Int.le_refl _, by show (0 : Int) ≤ 5 - j; omega, by show (5 : Int) - j ≤ 6; omega⟩
      have e1 : (l.length : Int) * (2 * MB j) ≤ 8 * (2 * MB j) := Int.mul_le_mul_of_nonneg_right (by omega) (by omega)
      have e2 : (l.length : Int) * (3518437208808 + 2 * SB j) ≤ 8 * (3518437208808 + 2 * SB j) := Int.mul_le_mul_of_nonneg_right (by omega) (by omega)
      exact ⟨b.1, by show _ ≤ 2199023255552 + 16 * MB j; omega, b.2.2.1, by show _ ≤ 28147497670464 + 16 * SB j; omega, b.2.2.2.2.1, b.2.2.2.2.2⟩
theorem MB_le : ∀ j, j ≤ 5 → MB j ≤ 2500000000000000000
  | 0, _ => by decide
  | 1, _ => by decide
  | 2, _ => by decide
  | 3, _ => by decide
  | 4, _ => by decide
  | 5, _ => by decide
  | j + 6, h => by omega
theorem SB_le : ∀ j, j ≤ 5 → SB j ≤ 2000000000000000000
  | 0, _ => by decide
  | 1, _ => by decide
  | 2, _ => by decide
  | 3, _ => by decide
  | 4, _ => by decide
  | 5, _ => by decide
  | j + 6, h => by omega
theorem part_ev {j : Nat} (hj : j ≤ 4) {p : List S127} {d : Int} (g : p ≠ [] → Ev (fun k => shape_size.f k p d) (sz j p)) (hb : Bd j (sz j p)) {a : Int × Int × Int} (ha : 0 ≤ a.1 ∧ a.1 ≤ 3000000000000000000 ∧ 0 ≤ a.2.1 ∧ a.2.1 ≤ 3000000000000000000) :
    Ev (fun k => sizePart (fun p => shape_size.f k p d) p a) (szPart (sz j) p a) := by
  obtain ⟨h1, h2, h3, h4, _, _⟩ := hb
  have := MB_le j (by omega)
  have := SB_le j (by omega)
  unfold sizePart szPart
  by_cases hp : p = []
  · subst hp
    simp only [List.length_nil, if_true]
    exact ev_neg (by decide) (Ev.now _)
  · have hl : (p.length : Int) > 0 := by have := List.length_pos_iff.2 hp; omega
    simp only [if_neg hp]
    refine ev_pos hl (Ev.bind (g hp) ?_)
    rw [wrap_in (x := a.1 + (sz j p).1) (by omega) (by omega), wrap_in (x := a.2.1 + (sz j p).2.1) (by omega) (by omega)]
    exact Ev.now _
theorem sspart_ev {j : Nat} (hj : j ≤ 4) {p : List S127} {d : Int} (g : p ≠ [] → Ev (fun k => codemasonref_ShapeSize.f k p d) (sz j p)) (hd : 1 ≤ d ∧ d ≤ 6) (hb : Bd j (sz j p)) {a : Int × Int × Int} (ha : 0 ≤ a.1 ∧ a.1 ≤ 3000000000000000000 ∧ 0 ≤ a.2.1 ∧ a.2.1 ≤ 3000000000000000000) (ha3 : d - 1 ≤ a.2.2) :
    Ev (fun k => ssPart (fun p => codemasonref_ShapeSize.f k p d) p a) (szPart (sz j) p a) := by
  obtain ⟨h1, h2, h3, h4, _, _⟩ := hb
  have := MB_le j (by omega)
  have := SB_le j (by omega)
  unfold ssPart szPart
  by_cases hp : p = []
  · subst hp
    simp only [if_true]
    refine Ev.bind (a := (0, 0, d - 1)) (ev_succ ?_) ?_
    · simp only [codemasonref_ShapeSize.f, List.length_nil, if_true]
      exact ev_some (by rw [wrap_in (by omega) (by omega)])
    · simp only [Int.add_zero]
      rw [wrap_in (x := a.1) (by omega) (by omega), wrap_in (x := a.2.1) (by omega) (by omega)]
      refine ev_some ?_
      rw [if_neg (by show ¬ a.2.2 < d - 1; omega)]
  · simp only [if_neg hp]
    refine Ev.bind (g hp) ?_
    rw [wrap_in (x := a.1 + (sz j p).1) (by omega) (by omega), wrap_in (x := a.2.1 + (sz j p).2.1) (by omega) (by omega)]
    exact Ev.now _
theorem szPart_deep {go : List S127 → Int × Int × Int} {p : List S127} {a : Int × Int × Int} : a.2.2 ≤ (szPart go p a).2.2 := by
  unfold szPart
  split
  · exact Int.le_refl _
  · show a.2.2 ≤ mx _ _
    unfold mx; split <;> omega
theorem loop_ev {j : Nat} (hj : j ≤ 4) {d : Int} (hd : 1 ≤ d ∧ d ≤ 6) : ∀ (l : List S127) (a : Int × Int × Int), (∀ x ∈ l, x.f2.length * 40 ≤ 140737488351232 ∧ Bd j (sz j x.f3) ∧ Bd j (sz j x.f4) ∧
      (x.f3 ≠ [] → Ev (fun k => shape_size.f k x.f3 d) (sz j x.f3) ∧ Ev (fun k => codemasonref_ShapeSize.f k x.f3 d) (sz j x.f3)) ∧ (x.f4 ≠ [] → Ev (fun k => shape_size.f k x.f4 d) (sz j x.f4) ∧ Ev (fun k => codemasonref_ShapeSize.f k x.f4 d) (sz j x.f4))) →
      (0 ≤ a.1 ∧ a.1 + l.length * (2 * MB j) ≤ 2500000000000000000 ∧ 0 ≤ a.2.1 ∧ a.2.1 + l.length * (3518437208808 + 2 * SB j) ≤ 2500000000000000000 ∧ 0 ≤ a.2.2 ∧ a.2.2 ≤ 6) → d - 1 ≤ a.2.2 →
    Ev (fun k => sizeLoop (fun p => shape_size.f k p d) l a) (szLoop (sz j) l a) ∧ Ev (fun k => ssLoop (fun p => codemasonref_ShapeSize.f k p d) l a) (szLoop (sz j) l a)
  | [], a, _, _, _ => ⟨Ev.now _, Ev.now _⟩
  | x :: t, a, hx, ha, hd3 => by
    obtain ⟨h2, h3, h4, g3, g4⟩ := hx x (by simp)
    have hM := MB_pos j
    have hS := SB_pos j
    have e1 : ((x :: t).length : Int) * (2 * MB j) = t.length * (2 * MB j) + 2 * MB j := by rw [List.length_cons]; push_cast; rw [Int.add_mul, Int.one_mul]
    have e2 : ((x :: t).length : Int) * (3518437208808 + 2 * SB j) = t.length * (3518437208808 + 2 * SB j) + (3518437208808 + 2 * SB j) := by rw [List.length_cons]; push_cast; rw [Int.add_mul, Int.one_mul]
    rw [e1, e2] at ha
    have n1 : 0 ≤ (t.length : Int) * (2 * MB j) := Int.mul_nonneg (by omega) (by omega)
    have n2 : 0 ≤ (t.length : Int) * (3518437208808 + 2 * SB j) := Int.mul_nonneg (by omega) (by omega)
    have w0 : wrap64 (a.2.1 + (x.f2.length : Int)) = a.2.1 + x.f2.length := wrap_in (by omega) (by omega)
    have b1 := szPart_bd h3 (a := (a.1, a.2.1 + x.f2.length, a.2.2)) (m := a.1) (s := a.2.1 + 3518437208808) ⟨ha.1, Int.le_refl _, by show 0 ≤ _ + _; omega, by show _ + _ ≤ _; omega, ha.2.2.2.2.1, ha.2.2.2.2.2⟩
    have b2 := szPart_bd h4 b1
    have ih := loop_ev hj hd t (szPart (sz j) x.f4 (szPart (sz j) x.f3 (a.1, a.2.1 + x.f2.length, a.2.2))) (fun y hy => hx y (List.mem_cons_of_mem _ hy)) ⟨b2.1, by omega, b2.2.2.1, by omega, b2.2.2.2.2⟩ (Int.le_trans hd3 (Int.le_trans (szPart_deep (go := sz j) (p := x.f3) (a := (a.1, a.2.1 + x.f2.length, a.2.2))) szPart_deep))
    simp only [sizeLoop, ssLoop, szLoop, sizeParts, ssParts, w0, Option.bind_assoc, Option.bind_some]
    refine ⟨Ev.bind (part_ev hj (fun h => (g3 h).1) h3 ⟨ha.1, by show a.1 ≤ _; omega, by show 0 ≤ _ + _; omega, by show _ + _ ≤ _; omega⟩) (Ev.bind (part_ev hj (fun h => (g4 h).1) h4 ⟨b1.1, by omega, b1.2.2.1, by omega⟩) ih.1),
      Ev.bind (sspart_ev hj (fun h => (g3 h).2) hd h3 ⟨ha.1, by show a.1 ≤ _; omega, by show 0 ≤ _ + _; omega, by show _ + _ ≤ _; omega⟩ hd3) (Ev.bind (sspart_ev hj (fun h => (g4 h).2) hd h4 ⟨b1.1, by omega, b1.2.2.1, by omega⟩ (Int.le_trans hd3 (szPart_deep (go := sz j) (p := x.f3) (a := (a.1, a.2.1 + x.f2.length, a.2.2))))) ih.2)⟩
theorem size_ev : ∀ (j : Nat), j ≤ 5 → ∀ (l : List S127), (∀ x ∈ l, good127 x) → l.length * 88 ≤ 140737488351232 →
    Ev (fun k => shape_size.f k l (6 - j)) (sz j l) ∧ (l ≠ [] → Ev (fun k => codemasonref_ShapeSize.f k l (6 - j)) (sz j l))
  | 0, _, l, _, hl => by
    refine ⟨ev_succ ?_, fun h => ev_succ ?_⟩
    · simp only [shape_size.f]; exact ev_pos (by omega) (Ev.now _)
    · simp only [codemasonref_ShapeSize.f]; exact ev_neg (fun e => h (List.length_eq_zero_iff.1 e)) (ev_pos (by omega) (Ev.now _))
  | j + 1, hj, l, hg, hl => by
    have hM := MB_pos j
    have hS := SB_pos j
    have hM1 := MB_le (j + 1) hj
    have hS1 := SB_le (j + 1) hj
    unfold MB at hM1
    unfold SB at hS1
    have e6 : (6 : Int) - ((j + 1 : Nat) : Int) = 5 - j := by omega
    have w1 : wrap64 ((5 : Int) - j + 1) = 6 - j := by rw [wrap_in (by omega) (by omega)]; omega
    rw [e6]
    by_cases h8 : l.length > 8
    · have es : sz (j + 1) l = ((l.length : Int), 0, (5 : Int) - j) := by unfold sz; rw [if_pos h8]
      rw [es]
      refine ⟨ev_succ ?_, fun h => ev_succ ?_⟩
      · simp only [shape_size.f]; exact ev_pos (by omega) (Ev.now _)
      · simp only [codemasonref_ShapeSize.f]; exact ev_neg (by omega) (ev_pos (by omega) (Ev.now _))
    · have es : sz (j + 1) l = szLoop (sz j) l (l.length, 0, 5 - j) := by rw [sz, if_neg h8]
      have m1 : (l.length : Int) * (2 * MB j) ≤ 8 * (2 * MB j) := Int.mul_le_mul_of_nonneg_right (by omega) (by omega)
      have m2 : (l.length : Int) * (3518437208808 + 2 * SB j) ≤ 8 * (3518437208808 + 2 * SB j) := Int.mul_le_mul_of_nonneg_right (by omega) (by omega)
      have lp := loop_ev (j := j) (by omega) (d := 6 - j) (by omega) l (l.length, 0, 5 - j) (fun x hx => by
        obtain ⟨⟨_, _, _, f2, f3, f4⟩, g3, g4⟩ := (hg x hx).parts
        have r3 := size_ev j (by omega) x.f3 g3 f3
        have r4 := size_ev j (by omega) x.f4 g4 f4
        exact ⟨f2, sz_bd j (by omega) x.f3 g3 f3, sz_bd j (by omega) x.f4 g4 f4, fun h => ⟨r3.1, r3.2 h⟩, fun h => ⟨r4.1, r4.2 h⟩⟩)
        ⟨by show (0 : Int) ≤ l.length; omega, by show (l.length : Int) + _ ≤ _; omega, Int.le_refl (0 : Int), by show (0 : Int) + _ ≤ _; omega, by show (0 : Int) ≤ 5 - j; omega, by show (5 : Int) - j ≤ 6; omega⟩ (by show (6 : Int) - j - 1 ≤ 5 - j; omega)
      rw [es]
      refine ⟨ev_succ ?_, fun h => ev_succ ?_⟩
      · simp only [shape_size.f, w1]; exact ev_neg (by omega) lp.1
      · simp only [codemasonref_ShapeSize.f, w1]; exact ev_neg (fun e => h (List.length_eq_zero_iff.1 e)) (ev_neg (by omega) lp.2)
def small : Nat → List S127 → Prop
  | 0, l => l = []
  | j + 1, l => ∀ x ∈ l, x.f2.length ≤ 20 ∧ small j x.f3 ∧ small j x.f4
theorem small_nil : ∀ j, small j []
  | 0 => rfl
  | j + 1 => fun x hx => absurd hx (by simp)
def Le3 (a b : Int × Int × Int) : Prop := a.1 ≤ b.1 ∧ a.2.1 ≤ b.2.1 ∧ a.2.2 ≤ b.2.2
theorem Le3.trans {a b c : Int × Int × Int} (h : Le3 a b) (k : Le3 b c) : Le3 a c := ⟨Int.le_trans h.1 k.1, Int.le_trans h.2.1 k.2.1, Int.le_trans h.2.2 k.2.2⟩
theorem szPart_ge {go : List S127 → Int × Int × Int} {p : List S127} {a : Int × Int × Int} (hp : 0 ≤ (go p).1 ∧ 0 ≤ (go p).2.1) (ha : 0 ≤ a.1 ∧ 0 ≤ a.2.1) : Le3 a (szPart go p a) ∧ (p ≠ [] → Le3 (go p) (szPart go p a)) := by
  unfold szPart
  split
  · exact ⟨⟨Int.le_refl _, Int.le_refl _, Int.le_refl _⟩, fun h => absurd ‹_› h⟩
  · refine ⟨⟨by show a.1 ≤ _ + _; omega, by show a.2.1 ≤ _ + _; omega, by show _ ≤ mx _ _; unfold mx; split <;> omega⟩, fun _ => ⟨by show _ ≤ a.1 + _; omega, by show _ ≤ a.2.1 + _; omega, by show _ ≤ mx _ _; unfold mx; split <;> omega⟩⟩
theorem szLoop_ge {go : List S127 → Int × Int × Int} : ∀ (l : List S127) (a : Int × Int × Int), (∀ x ∈ l, (0 ≤ (go x.f3).1 ∧ 0 ≤ (go x.f3).2.1) ∧ 0 ≤ (go x.f4).1 ∧ 0 ≤ (go x.f4).2.1) → (0 ≤ a.1 ∧ 0 ≤ a.2.1) →
    Le3 a (szLoop go l a) ∧ ∀ x ∈ l, (x.f2.length : Int) ≤ (szLoop go l a).2.1 ∧ (x.f3 ≠ [] → Le3 (go x.f3) (szLoop go l a)) ∧ (x.f4 ≠ [] → Le3 (go x.f4) (szLoop go l a))
  | [], a, _, _ => ⟨⟨Int.le_refl _, Int.le_refl _, Int.le_refl _⟩, fun x hx => absurd hx (by simp)⟩
  | x :: t, a, hx, ha => by
    obtain ⟨h3, h4⟩ := hx x (by simp)
    have p1 := szPart_ge h3 (a := (a.1, a.2.1 + x.f2.length, a.2.2)) ⟨ha.1, by show 0 ≤ _ + _; omega⟩
    have p2 := szPart_ge h4 (a := szPart go x.f3 (a.1, a.2.1 + x.f2.length, a.2.2)) ⟨by have := p1.1.1; have := ha.1; simp only at *; omega, by have := p1.1.2.1; have := ha.2; simp only at *; omega⟩
    have ih := szLoop_ge t (szPart go x.f4 (szPart go x.f3 (a.1, a.2.1 + x.f2.length, a.2.2))) (fun y hy => hx y (List.mem_cons_of_mem _ hy)) ⟨by have := p1.1.1; have := p2.1.1; have := ha.1; simp only at *; omega, by have := p1.1.2.1; have := p2.1.2.1; have := ha.2; simp only at *; omega⟩
    have q1 : Le3 a (a.1, a.2.1 + (x.f2.length : Int), a.2.2) := ⟨Int.le_refl _, by show a.2.1 ≤ _ + _; omega, Int.le_refl _⟩
    refine ⟨q1.trans (p1.1.trans (p2.1.trans ih.1)), fun y hy => ?_⟩
    rcases List.mem_cons.1 hy with rfl | hy
    · have h := (p1.1.trans (p2.1.trans ih.1)).2.1
      exact ⟨by have := ha.2; simp only at h; show _ ≤ (szLoop go t _).2.1; omega, fun h => (p1.2 h).trans (p2.1.trans ih.1), fun h => (p2.2 h).trans ih.1⟩
    · exact ih.2 y hy
theorem small_of : ∀ (j : Nat), j ≤ 5 → ∀ (l : List S127), (∀ x ∈ l, good127 x) → l.length * 88 ≤ 140737488351232 → l ≠ [] → (sz j l).1 ≤ 8 → (sz j l).2.1 ≤ 20 → (sz j l).2.2 ≤ 5 → small j l
  | 0, _, l, _, _, _, _, _, h => absurd h (by show ¬ ((6 : Int) ≤ 5); decide)
  | j + 1, hj, l, hg, hl, hn, h1, h2, h3 => by
    by_cases h8 : l.length > 8
    · rw [sz, if_pos h8] at h1
      exact absurd h1 (by show ¬ ((l.length : Int) ≤ 8); omega)
    · rw [sz, if_neg h8] at h1 h2 h3
      have g := szLoop_ge (go := sz j) l (l.length, 0, 5 - j) (fun x hx => by
        obtain ⟨⟨_, _, _, f2, f3, f4⟩, g3, g4⟩ := (hg x hx).parts
        have b3 := sz_bd j (by omega) x.f3 g3 f3
        have b4 := sz_bd j (by omega) x.f4 g4 f4
        exact ⟨⟨b3.1, b3.2.2.1⟩, b4.1, b4.2.2.1⟩) ⟨by show (0 : Int) ≤ l.length; omega, Int.le_refl (0 : Int)⟩
      intro x hx
      obtain ⟨⟨_, _, _, f2, f3, f4⟩, g3, g4⟩ := (hg x hx).parts
      obtain ⟨k1, k2, k3⟩ := g.2 x hx
      refine ⟨by omega, ?_, ?_⟩
      · by_cases e : x.f3 = []
        · rw [e]; exact small_nil j
        · have := k2 e; exact small_of j (by omega) x.f3 g3 f3 e (Int.le_trans this.1 h1) (Int.le_trans this.2.1 h2) (Int.le_trans this.2.2 h3)
      · by_cases e : x.f4 = []
        · rw [e]; exact small_nil j
        · have := k3 e; exact small_of j (by omega) x.f4 g4 f4 e (Int.le_trans this.1 h1) (Int.le_trans this.2.1 h2) (Int.le_trans this.2.2 h3)
def okS (v : Int) : Nat → List S127 → Prop
  | 0, l => l = []
  | j + 1, l => ∀ x ∈ l, (x.f2.length ≤ 20 ∧ 1 ≤ x.f0 ∧ x.f0 ≤ 3 ∧ (x.f0 = 1 → stepsErr v x.f2 = 0) ∧ (x.f0 ≠ 1 → 0 ≤ x.f1 ∧ x.f1 < v)) ∧ okS v j x.f3 ∧ okS v j x.f4
theorem own_eq {v : Int} (h1 : 1 ≤ v) (h6 : v ≤ 6) {x : S127} (hx : x.f2.length ≤ 20) : shapeOwn v x = kindOwn v x := by
  have hw : wrap64 (0 + (x.f2.length : Int)) = x.f2.length := by rw [wrap_in (by omega) (by omega)]; omega
  have hb : blockCheck v [⟨x.f2, -1, -1, 0⟩] = stepsErr v x.f2 := by
    unfold blockCheck
    rw [if_neg (by simp only [List.length_cons, List.length_nil, manyOf, hw]; omega)]
    simp only [blocksErr, blockErr, insB]
    by_cases e : stepsErr v x.f2 = 0
    · simp [e]; omega
    · simp [e]
  unfold shapeOwn kindOwn
  rw [hb]
  grind
theorem own_zero {v : Int} {x : S127} : kindOwn v x = 0 ↔ 1 ≤ x.f0 ∧ x.f0 ≤ 3 ∧ (x.f0 = 1 → stepsErr v x.f2 = 0) ∧ (x.f0 ≠ 1 → 0 ≤ x.f1 ∧ x.f1 < v) := by
  unfold kindOwn
  grind
theorem kinds_ev {v : Int} (h1 : 1 ≤ v) (h6 : v ≤ 6) : ∀ (j : Nat) (l : List S127), small j l → ∃ r, Ev (fun k => shape_shapes.f k v l) r ∧ Ev (fun k => codemasonref_shapeKinds.f k v l) r ∧ (r = 0 → okS v j l)
  | 0, l, h => by
    obtain rfl : l = [] := h
    refine ⟨0, ev_succ ?_, ev_succ ?_, fun _ => rfl⟩
    · simp only [shape_shapes.f, shapesLoop]; exact Ev.now _
    · simp only [codemasonref_shapeKinds.f, shapesLoop]; exact Ev.now _
  | j + 1, l, h => by
    have key : ∀ (l : List S127), (∀ x ∈ l, x.f2.length ≤ 20 ∧ small j x.f3 ∧ small j x.f4) → ∃ r, Ev (fun k => shapesLoop (shapeOwn v) (fun p => shape_shapes.f k v p) l) r ∧ Ev (fun k => shapesLoop (kindOwn v) (fun p => codemasonref_shapeKinds.f k v p) l) r ∧ (r = 0 → okS v (j + 1) l) := by
      intro l
      induction l with
      | nil => exact fun _ => ⟨0, Ev.now _, Ev.now _, fun _ x hx => absurd hx (by simp)⟩
      | cons x t iht =>
        intro hs
        obtain ⟨h2, h3, h4⟩ := hs x (by simp)
        obtain ⟨rt, t1, t2, t3⟩ := iht (fun y hy => hs y (List.mem_cons_of_mem _ hy))
        obtain ⟨r3, a1, a2, a3⟩ := kinds_ev h1 h6 j x.f3 h3
        obtain ⟨r4, b1, b2, b3⟩ := kinds_ev h1 h6 j x.f4 h4
        have ho := own_eq h1 h6 h2
        simp only [shapesLoop, shapesParts, ho]
        by_cases e : kindOwn v x = 0
        · by_cases e3 : r3 = 0
          · by_cases e4 : r4 = 0
            · refine ⟨rt, ev_pos e (Ev.bind (a := 0) (Ev.bind a1 (ev_pos e3 (Ev.bind b1 (ev_pos e4 (Ev.now _))))) (ev_pos rfl t1)), ev_pos e (Ev.bind (a := 0) (Ev.bind a2 (ev_pos e3 (Ev.bind b2 (ev_pos e4 (Ev.now _))))) (ev_pos rfl t2)), fun hr y hy => ?_⟩
              rcases List.mem_cons.1 hy with rfl | hy
              · exact ⟨⟨h2, own_zero.1 e⟩, a3 e3, b3 e4⟩
              · exact t3 hr y hy
            · exact ⟨r4, ev_pos e (Ev.bind (a := r4) (Ev.bind a1 (ev_pos e3 (Ev.bind b1 (ev_neg e4 (Ev.now _))))) (ev_neg e4 (Ev.now _))), ev_pos e (Ev.bind (a := r4) (Ev.bind a2 (ev_pos e3 (Ev.bind b2 (ev_neg e4 (Ev.now _))))) (ev_neg e4 (Ev.now _))), fun hr => absurd hr e4⟩
          · exact ⟨r3, ev_pos e (Ev.bind (a := r3) (Ev.bind a1 (ev_neg e3 (Ev.now _))) (ev_neg e3 (Ev.now _))), ev_pos e (Ev.bind (a := r3) (Ev.bind a2 (ev_neg e3 (Ev.now _))) (ev_neg e3 (Ev.now _))), fun hr => absurd hr e3⟩
        · exact ⟨kindOwn v x, ev_neg e (Ev.now _), ev_neg e (Ev.now _), fun hr => absurd hr e⟩
    obtain ⟨r, k1, k2, k3⟩ := key l h
    refine ⟨r, ev_succ ?_, ev_succ ?_, k3⟩
    · simp only [shape_shapes.f]; exact k1
    · simp only [codemasonref_shapeKinds.f]; exact k2
theorem shapeCheck_ev (v : Int) (l : List S127) (hg : ∀ x ∈ l, good127 x) (hl : l.length * 88 ≤ 140737488351232) :
    ∃ r, Ev (fun k => shape_Check.f k v l) r ∧ Ev (fun k => codemasonref_ShapeCheck.f k v l) r ∧ (r = 0 → 1 ≤ v ∧ v ≤ 6 ∧ okS v 5 l ∧ (l = [] ∨ (sz 5 l).1 ≤ 8 ∧ (sz 5 l).2.1 ≤ 20)) := by
  unfold shape_Check.f codemasonref_ShapeCheck.f
  obtain ⟨s1, s2⟩ := size_ev 5 (by omega) l hg hl
  have e1 : (6 : Int) - ((5 : Nat) : Int) = 1 := rfl
  rw [e1] at s1 s2
  by_cases hn : l = []
  · subst hn
    have s2 : Ev (fun k => codemasonref_ShapeSize.f k [] 1) (0, 0, 0) := ev_succ (by simp only [codemasonref_ShapeSize.f, List.length_nil, if_true]; exact ev_some (by rw [wrap_in (by decide) (by decide)]; rfl))
    by_cases hv : 1 ≤ v ∧ v ≤ 6
    · obtain ⟨r, k1, k2, k3⟩ := kinds_ev hv.1 hv.2 5 [] (small_nil 5)
      exact ⟨r, Ev.bind s1 (ev_neg (by omega) (ev_neg (by omega) (ev_neg (by decide) (ev_neg (by decide) (ev_neg (by decide) (Ev.bind k1 (Ev.now _))))))), Ev.bind s2 (ev_neg (by omega) (ev_neg (by omega) (ev_neg (by decide) (ev_neg (by decide) (ev_neg (by decide) (Ev.bind k2 (Ev.now _))))))), fun h => ⟨hv.1, hv.2, k3 h, .inl rfl⟩⟩
    · exact ⟨1, Ev.bind s1 (ev_ite (fun _ => Ev.now _) (fun h => ev_pos (by omega) (Ev.now _))), Ev.bind s2 (ev_ite (fun _ => Ev.now _) (fun h => ev_pos (by omega) (Ev.now _))), fun h => absurd h (by decide)⟩
  · have s2 := s2 hn
    generalize hq : sz 5 l = q at s1 s2
    by_cases hc : 1 ≤ v ∧ v ≤ 6 ∧ q.1 ≤ 8 ∧ q.2.1 ≤ 20 ∧ q.2.2 ≤ 5
    · obtain ⟨c1, c2, c3, c4, c5⟩ := hc
      obtain ⟨r, k1, k2, k3⟩ := kinds_ev c1 c2 5 l (small_of 5 (by omega) l hg hl hn (by rw [hq]; exact c3) (by rw [hq]; exact c4) (by rw [hq]; exact c5))
      exact ⟨r, Ev.bind s1 (ev_neg (by omega) (ev_neg (by omega) (ev_neg (by omega) (ev_neg (by omega) (ev_neg (by omega) (Ev.bind k1 (Ev.now _))))))), Ev.bind s2 (ev_neg (by omega) (ev_neg (by omega) (ev_neg (by omega) (ev_neg (by omega) (ev_neg (by omega) (Ev.bind k2 (Ev.now _))))))), fun h => ⟨c1, c2, k3 h, .inr ⟨c3, c4⟩⟩⟩
    · refine ⟨1, Ev.bind s1 ?_, Ev.bind s2 ?_, fun h => absurd h (by decide)⟩
      all_goals exact ev_ite (fun _ => Ev.now _) (fun _ => ev_ite (fun _ => Ev.now _) (fun _ => ev_ite (fun _ => Ev.now _) (fun _ => ev_ite (fun _ => Ev.now _) (fun _ => ev_ite (fun _ => Ev.now _) (fun _ => absurd hc (by omega))))))
end Go.Proofs.Ytaicamjpcnhjcaa.PA
namespace Go.Proofs.Ytaicamjpcnhjcaa.PA
open Go.RowKit Go.Proofs.YtaicamjpcnhjcaaW.PrintWords Go.Proofs.YtaicamjpcnhjcaaW.PrintLast Go.Proofs.YtaicamjpcnhjcaaW.PrintMore
set_option linter.unusedVariables false
set_option linter.unusedSimpArgs false
inductive Sh : List S127 → List Int → Int → List Int → Int → Prop
  | nil (v : List Int) (t : Int) : Sh [] v t v t
  | code {x : S127} {l : List S127} {v v' : List Int} {t t' : Int} : x.f0 = 1 → Sh l (doing x.f2 v) t v' t' → Sh (x :: l) v t v' t'
  | both {x : S127} {l : List S127} {v v1 v' : List Int} {t t1 t' : Int} : x.f0 = 2 → Sh (if rd v x.f1 = 0 then x.f4 else x.f3) v t v1 t1 → 0 ≤ t1 → Sh l v1 t1 v' t' → Sh (x :: l) v t v' t'
  | bothOut {x : S127} {l : List S127} {v v1 : List Int} {t t1 : Int} : x.f0 = 2 → Sh (if rd v x.f1 = 0 then x.f4 else x.f3) v t v1 t1 → t1 < 0 → Sh (x :: l) v t v1 t1
  | whileEnd {x : S127} {l : List S127} {v v' : List Int} {t t' : Int} : x.f0 = 3 → rd v x.f1 = 0 → Sh l v t v' t' → Sh (x :: l) v t v' t'
  | whileOut {x : S127} {l : List S127} {v : List Int} {t : Int} : x.f0 = 3 → rd v x.f1 ≠ 0 → t - 1 < 0 → Sh (x :: l) v t v (t - 1)
  | whileBodyOut {x : S127} {l : List S127} {v v1 : List Int} {t t1 : Int} : x.f0 = 3 → rd v x.f1 ≠ 0 → 0 ≤ t - 1 → Sh x.f3 v (t - 1) v1 t1 → t1 < 0 → Sh (x :: l) v t v1 t1
  | whileGo {x : S127} {l : List S127} {v v1 v' : List Int} {t t1 t' : Int} : x.f0 = 3 → rd v x.f1 ≠ 0 → 0 ≤ t - 1 → Sh x.f3 v (t - 1) v1 t1 → 0 ≤ t1 → Sh (x :: l) v1 t1 v' t' → Sh (x :: l) v t v' t'
inductive OkL (n : Int) : List S127 → Prop
  | mk {l : List S127} : l.length ≤ 9223372036854775807 → (∀ x ∈ l, 1 ≤ x.f0 ∧ x.f0 ≤ 3 ∧ (x.f0 = 1 → (∀ s ∈ x.f2, okStep n s) ∧ x.f2.length ≤ 9223372036854775807) ∧ (x.f0 ≠ 1 → 0 ≤ x.f1 ∧ x.f1 < n)) → (∀ x ∈ l, OkL n x.f3) → (∀ x ∈ l, OkL n x.f4) → OkL n l
theorem OkL.tail {n : Int} {x : S127} {l : List S127} (h : OkL n (x :: l)) : OkL n l := by
  cases h with
  | mk h1 h2 h3 h4 => exact .mk (by simp at h1; omega) (fun y hy => h2 y (List.mem_cons_of_mem _ hy)) (fun y hy => h3 y (List.mem_cons_of_mem _ hy)) (fun y hy => h4 y (List.mem_cons_of_mem _ hy))
theorem OkL.head {n : Int} {x : S127} {l : List S127} (h : OkL n (x :: l)) : (1 ≤ x.f0 ∧ x.f0 ≤ 3 ∧ (x.f0 = 1 → (∀ s ∈ x.f2, okStep n s) ∧ x.f2.length ≤ 9223372036854775807) ∧ (x.f0 ≠ 1 → 0 ≤ x.f1 ∧ x.f1 < n)) ∧ OkL n x.f3 ∧ OkL n x.f4 := by
  cases h with
  | mk h1 h2 h3 h4 => exact ⟨h2 x (by simp), h3 x (by simp), h4 x (by simp)⟩
theorem OkL.len {n : Int} {l : List S127} (h : OkL n l) : l.length ≤ 9223372036854775807 := by
  cases h with
  | mk h1 h2 h3 h4 => exact h1
theorem OkL.arm {n : Int} {x : S127} {l : List S127} (h : OkL n (x :: l)) (c : Prop) [Decidable c] : OkL n (if c then x.f4 else x.f3) := by
  split
  · exact h.head.2.2
  · exact h.head.2.1
theorem okL_of {n : Int} : ∀ (j : Nat) (l : List S127), (∀ x ∈ l, good127 x) → l.length * 88 ≤ 140737488351232 → okS n j l → OkL n l
  | 0, l, _, _, h => by
    obtain rfl : l = [] := h
    exact .mk (by simp) (fun x hx => absurd hx (by simp)) (fun x hx => absurd hx (by simp)) (fun x hx => absurd hx (by simp))
  | j + 1, l, hg, hl, h => .mk (by omega) (fun x hx => by
      obtain ⟨⟨h1, h2, h3, h4, h5⟩, h6, h7⟩ := h x hx
      exact ⟨h2, h3, fun e => ⟨steps_ok (h4 e), by omega⟩, h5⟩)
    (fun x hx => okL_of j _ (hg x hx).parts.2.1 (hg x hx).parts.1.2.2.2.2.1 (h x hx).2.1) (fun x hx => okL_of j _ (hg x hx).parts.2.2 (hg x hx).parts.1.2.2.2.2.2 (h x hx).2.2)
theorem Sh.keeps {n : Int} {l : List S127} {v v' : List Int} {t t' : Int} (h : Sh l v t v' t') : OkL n l → vals n v → vals n v' := by
  induction h with
  | nil v t => exact fun _ h => h
  | code e _ ih => exact fun ho hv => ih ho.tail (doing_vals (ho.head.1.2.2.1 e).1 hv)
  | both e _ _ _ ih1 ih2 => exact fun ho hv => ih2 ho.tail (ih1 (ho.arm _) hv)
  | bothOut e _ _ ih1 => exact fun ho hv => ih1 (ho.arm _) hv
  | whileEnd e _ _ ih => exact fun ho hv => ih ho.tail hv
  | whileOut e _ _ => exact fun ho hv => hv
  | whileBodyOut e _ _ _ _ ih => exact fun ho hv => ih ho.head.2.1 hv
  | whileGo e _ _ _ _ _ ih1 ih2 => exact fun ho hv => ih2 ho (ih1 ho.head.2.1 hv)
theorem Sh.less {l : List S127} {v v' : List Int} {t t' : Int} (h : Sh l v t v' t') : t' ≤ t := by
  induction h with
  | nil v t => omega
  | code _ _ ih => exact ih
  | both _ _ _ _ ih1 ih2 => omega
  | bothOut _ _ _ ih1 => omega
  | whileEnd _ _ _ ih => exact ih
  | whileOut _ _ _ => omega
  | whileBodyOut _ _ _ _ _ ih => omega
  | whileGo _ _ _ _ _ _ ih1 ih2 => omega
theorem Sh.append {l m : List S127} {v v1 v' : List Int} {t t1 t' : Int} (h : Sh l v t v1 t1) : 0 ≤ t1 → Sh m v1 t1 v' t' → Sh (l ++ m) v t v' t' := by
  induction h with
  | nil v t => exact fun _ h => h
  | code e _ ih => exact fun h0 hm => .code e (ih h0 hm)
  | both e h1 h2 _ _ ih2 => exact fun h0 hm => .both e h1 h2 (ih2 h0 hm)
  | bothOut e _ h2 _ => exact fun h0 _ => absurd h0 (by omega)
  | whileEnd e h1 _ ih => exact fun h0 hm => .whileEnd e h1 (ih h0 hm)
  | whileOut e _ h1 => exact fun h0 _ => absurd h0 (by omega)
  | whileBodyOut e _ _ _ h1 _ => exact fun h0 _ => absurd h0 (by omega)
  | whileGo e h1 h2 h3 h4 _ _ ih2 => exact fun h0 hm => .whileGo e h1 h2 h3 h4 (ih2 h0 hm)
theorem sh_ends {n : Int} {l : List S127} (h : OkL n l) : ∀ v t, vals n v → 0 ≤ t → ∃ v' t', Sh l v t v' t' := by
  induction h with
  | @mk l h1 h2 h3 h4 ih3 ih4 =>
    clear h1
    induction l with
    | nil => exact fun v t _ _ => ⟨v, t, .nil v t⟩
    | cons x l ihl =>
      replace ihl := ihl (fun y hy => h2 y (List.mem_cons_of_mem _ hy)) (fun y hy => h3 y (List.mem_cons_of_mem _ hy)) (fun y hy => h4 y (List.mem_cons_of_mem _ hy)) (fun y hy => ih3 y (List.mem_cons_of_mem _ hy)) (fun y hy => ih4 y (List.mem_cons_of_mem _ hy))
      obtain ⟨k1, k3, kc, kt⟩ := h2 x (by simp)
      have i3 := ih3 x (by simp)
      have i4 := ih4 x (by simp)
      have o3 := h3 x (by simp)
      have o4 := h4 x (by simp)
      clear h2 h3 h4 ih3 ih4
      intro v t hv ht
      by_cases e1 : x.f0 = 1
      · obtain ⟨v', t', h⟩ := ihl _ t (doing_vals (kc e1).1 hv) ht
        exact ⟨v', t', .code e1 h⟩
      · by_cases e2 : x.f0 = 2
        · have hq : ∃ v1 t1, Sh (if rd v x.f1 = 0 then x.f4 else x.f3) v t v1 t1 ∧ vals n v1 := by
            split
            · obtain ⟨v1, t1, h⟩ := i4 v t hv ht
              exact ⟨v1, t1, h, h.keeps o4 hv⟩
            · obtain ⟨v1, t1, h⟩ := i3 v t hv ht
              exact ⟨v1, t1, h, h.keeps o3 hv⟩
          obtain ⟨v1, t1, h, hv1⟩ := hq
          by_cases ht1 : 0 ≤ t1
          · obtain ⟨v', t', h'⟩ := ihl v1 t1 hv1 ht1
            exact ⟨v', t', .both e2 h ht1 h'⟩
          · exact ⟨v1, t1, .bothOut e2 h (by omega)⟩
        · have e3 : x.f0 = 3 := by omega
          have key : ∀ (m : Nat) (v : List Int) (t : Int), vals n v → 0 ≤ t → t ≤ m → ∃ v' t', Sh (x :: l) v t v' t' := by
            intro m
            induction m with
            | zero =>
              intro v t hv ht hm
              by_cases hz : rd v x.f1 = 0
              · obtain ⟨v', t', h'⟩ := ihl v t hv ht
                exact ⟨v', t', .whileEnd e3 hz h'⟩
              · exact ⟨v, t - 1, .whileOut e3 hz (by omega)⟩
            | succ m ihm =>
              intro v t hv ht hm
              by_cases hz : rd v x.f1 = 0
              · obtain ⟨v', t', h'⟩ := ihl v t hv ht
                exact ⟨v', t', .whileEnd e3 hz h'⟩
              · by_cases h1 : t - 1 < 0
                · exact ⟨v, t - 1, .whileOut e3 hz h1⟩
                · obtain ⟨v1, t1, h⟩ := i3 v (t - 1) hv (by omega)
                  have hle := h.less
                  by_cases ht1 : 0 ≤ t1
                  · obtain ⟨v', t', h'⟩ := ihm v1 t1 (h.keeps o3 hv) ht1 (by omega)
                    exact ⟨v', t', .whileGo e3 hz (by omega) h ht1 h'⟩
                  · exact ⟨v1, t1, .whileBodyOut e3 hz (by omega) h (by omega)⟩
          exact key t.toNat v t hv ht (by omega)
theorem ev_shift {α : Type} {g : Nat → Option α} {r : α} (h : Ev g r) : Ev (fun k => g (k + 1)) r := by
  obtain ⟨K, h⟩ := h
  exact ⟨K, fun k hk => h (k + 1) (by omega)⟩
theorem shaped_ev {n : Int} (hn : n < 17592186044416) {l : List S127} {v v' : List Int} {t t' : Int} (h : Sh l v t v' t') : ∀ (L : List S127) (i : Nat), OkL n L → i ≤ L.length → L.drop i = l → vals n v → 0 ≤ t → t ≤ 1000000 → Ev (fun k => codemasonref_Shaped.l0 k v t L L.length i) (v', t') := by
  have start : ∀ {l : List S127} {v v' : List Int} {t t' : Int}, (∀ (L : List S127) (i : Nat), OkL n L → i ≤ L.length → L.drop i = l → vals n v → 0 ≤ t → t ≤ 1000000 → Ev (fun k => codemasonref_Shaped.l0 k v t L L.length i) (v', t')) → OkL n l → vals n v → 0 ≤ t → t ≤ 1000000 → Ev (fun k => codemasonref_Shaped.f k l v t) (v', t') := by
    intro l v v' t t' h ho hv h0 h1
    refine ev_succ ?_
    simp only [codemasonref_Shaped.f]
    exact h l 0 ho (by omega) rfl hv h0 h1
  have at_ : ∀ {L : List S127} {i : Nat} {x : S127} {l : List S127}, i ≤ L.length → L.drop i = x :: l → i < L.length ∧ rd_T127 L i = x ∧ L.drop (i + 1) = l := by
    intro L i x l hi hd
    have hlt : i < L.length := by
      rcases Nat.lt_or_ge i L.length with h | h
      · exact h
      · rw [List.drop_of_length_le h] at hd; cases hd
    rw [drop_at z127 hlt] at hd
    injection hd with h1 h2
    exact ⟨hlt, h1, h2⟩
  have okd : ∀ {L : List S127} {i : Nat} {l : List S127}, OkL n L → L.drop i = l → OkL n l := by
    intro L i l ho hd
    subst hd
    cases ho with
    | mk h1 h2 h3 h4 => exact .mk (by rw [List.length_drop]; omega) (fun y hy => h2 y (List.mem_of_mem_drop hy)) (fun y hy => h3 y (List.mem_of_mem_drop hy)) (fun y hy => h4 y (List.mem_of_mem_drop hy))
  induction h with
  | nil v t =>
    intro L i ho hi hd hv h0 h1
    have : L.length ≤ i := by
      rcases Nat.lt_or_ge i L.length with h | h
      · rw [drop_at z127 h] at hd; cases hd
      · exact h
    refine ev_succ ?_
    simp only [codemasonref_Shaped.l0]
    exact ev_neg (by omega) (Ev.now _)
  | @code x l v v' t t' e _ ih =>
    intro L i ho hi hd hv h0 h1
    obtain ⟨hlt, hx, hd2⟩ := at_ hi hd
    have hok := okd ho hd
    obtain ⟨hc1, hc2⟩ := hok.head.1.2.2.1 e
    refine ev_succ ?_
    simp only [codemasonref_Shaped.l0, wrap_nat hlt ho.len, hx]
    exact ev_pos (by omega) (ev_pos (by omega) (ev_pos (by omega) (ev_pos e (Ev.bind (refDoing_ev hc2 hc1 hv hn) (ev_neg (by omega) (ih L (i + 1) ho hlt hd2 (doing_vals hc1 hv) h0 h1))))))
  | @both x l v v1 v' t t1 t' e hs1 ht1 _ ih1 ih2 =>
    intro L i ho hi hd hv h0 h1
    obtain ⟨hlt, hx, hd2⟩ := at_ hi hd
    have hok := okd ho hd
    have hr := hok.head.1.2.2.2 (by omega)
    have hl := hv.1
    have hv1 := hs1.keeps (hok.arm _) hv
    have hle := hs1.less
    have hb := start ih1 (hok.arm _) hv h0 h1
    have hrest := ih2 L (i + 1) ho hlt hd2 hv1 ht1 (by omega)
    refine ev_succ ?_
    simp only [codemasonref_Shaped.l0, wrap_nat hlt ho.len, hx]
    refine ev_pos (by omega) (ev_pos (by omega) (ev_pos (by omega) (ev_neg (by omega) (ev_pos e (ev_pos (by omega) (ev_pos (by omega) (ev_ite (fun hz => ?_) (fun hz => ?_))))))))
    · simp only [if_pos hz] at hb
      exact Ev.bind hb (ev_neg (by simp only; omega) hrest)
    · simp only [if_neg hz] at hb
      exact Ev.bind hb (ev_neg (by simp only; omega) hrest)
  | @bothOut x l v v1 t t1 e hs1 ht1 ih1 =>
    intro L i ho hi hd hv h0 h1
    obtain ⟨hlt, hx, hd2⟩ := at_ hi hd
    have hok := okd ho hd
    have hr := hok.head.1.2.2.2 (by omega)
    have hl := hv.1
    have hb := start ih1 (hok.arm _) hv h0 h1
    refine ev_succ ?_
    simp only [codemasonref_Shaped.l0, wrap_nat hlt ho.len, hx]
    refine ev_pos (by omega) (ev_pos (by omega) (ev_pos (by omega) (ev_neg (by omega) (ev_pos e (ev_pos (by omega) (ev_pos (by omega) (ev_ite (fun hz => ?_) (fun hz => ?_))))))))
    · simp only [if_pos hz] at hb
      exact Ev.bind hb (ev_pos ht1 (Ev.now _))
    · simp only [if_neg hz] at hb
      exact Ev.bind hb (ev_pos ht1 (Ev.now _))
  | @whileEnd x l v v' t t' e hz _ ih =>
    intro L i ho hi hd hv h0 h1
    obtain ⟨hlt, hx, hd2⟩ := at_ hi hd
    have hok := okd ho hd
    have hr := hok.head.1.2.2.2 (by omega)
    have hl := hv.1
    have hrest := ih L (i + 1) ho hlt hd2 hv h0 h1
    refine ev_succ ?_
    simp only [codemasonref_Shaped.l0, hx]
    refine ev_pos (by omega) (ev_pos (by omega) (ev_pos (by omega) (ev_neg (by omega) (ev_neg (by omega) (ev_pos e ?_)))))
    refine ev_succ ?_
    simp only [codemasonref_Shaped.l1]
    refine ev_pos h0 (ev_pos (by omega) (ev_pos (by omega) ?_))
    refine ev_succ ?_
    simp only [codemasonref_Shaped.j2, wrap_nat hlt ho.len, hz]
    exact ev_neg (by simp) (ev_neg (by omega) hrest)
  | @whileOut x l v t e hz ht =>
    intro L i ho hi hd hv h0 h1
    obtain ⟨hlt, hx, hd2⟩ := at_ hi hd
    have hok := okd ho hd
    have hr := hok.head.1.2.2.2 (by omega)
    have hl := hv.1
    have hzb : (rd v x.f1 != 0) = true := bne_iff_ne.mpr hz
    refine ev_succ ?_
    simp only [codemasonref_Shaped.l0, hx]
    refine ev_pos (by omega) (ev_pos (by omega) (ev_pos (by omega) (ev_neg (by omega) (ev_neg (by omega) (ev_pos e ?_)))))
    refine ev_succ ?_
    simp only [codemasonref_Shaped.l1]
    refine ev_pos h0 (ev_pos (by omega) (ev_pos (by omega) ?_))
    refine ev_succ ?_
    simp only [codemasonref_Shaped.j2, hzb, wrap_in (x := t - 1) (by omega) (by omega)]
    refine ev_pos (by simp) (ev_neg (by omega) ?_)
    refine ev_succ ?_
    simp only [codemasonref_Shaped.l1]
    refine ev_neg (by omega) ?_
    refine ev_succ ?_
    simp only [codemasonref_Shaped.j2]
    exact ev_neg (by simp) (ev_pos ht (Ev.now _))
  | @whileBodyOut x l v v1 t t1 e hz ht hs1 ht1 ih1 =>
    intro L i ho hi hd hv h0 h1
    obtain ⟨hlt, hx, hd2⟩ := at_ hi hd
    have hok := okd ho hd
    have hr := hok.head.1.2.2.2 (by omega)
    have hl := hv.1
    have hzb : (rd v x.f1 != 0) = true := bne_iff_ne.mpr hz
    have hb := start ih1 hok.head.2.1 hv ht (by omega)
    refine ev_succ ?_
    simp only [codemasonref_Shaped.l0, hx]
    refine ev_pos (by omega) (ev_pos (by omega) (ev_pos (by omega) (ev_neg (by omega) (ev_neg (by omega) (ev_pos e ?_)))))
    refine ev_succ ?_
    simp only [codemasonref_Shaped.l1]
    refine ev_pos h0 (ev_pos (by omega) (ev_pos (by omega) ?_))
    refine ev_succ ?_
    simp only [codemasonref_Shaped.j2, hzb, wrap_in (x := t - 1) (by omega) (by omega)]
    refine ev_pos (by simp) (ev_pos (by omega) (Ev.bind hb ?_))
    refine ev_succ ?_
    simp only [codemasonref_Shaped.l1]
    refine ev_neg (by omega) ?_
    refine ev_succ ?_
    simp only [codemasonref_Shaped.j2]
    exact ev_neg (by simp) (ev_pos ht1 (Ev.now _))
  | @whileGo x l v v1 v' t t1 t' e hz ht hs1 ht1 _ ih1 ih2 =>
    intro L i ho hi hd hv h0 h1
    obtain ⟨hlt, hx, hd2⟩ := at_ hi hd
    have hok := okd ho hd
    have hr := hok.head.1.2.2.2 (by omega)
    have hl := hv.1
    have hle := hs1.less
    have hzb : (rd v x.f1 != 0) = true := bne_iff_ne.mpr hz
    have hb := start ih1 hok.head.2.1 hv ht (by omega)
    have hrest := ev_shift (ih2 L i ho hi hd (hs1.keeps hok.head.2.1 hv) ht1 (by omega))
    refine ev_succ ?_
    simp only [codemasonref_Shaped.l0, hx] at hrest ⊢
    refine ev_pos (by omega) (ev_pos (by omega) (ev_pos (by omega) (ev_neg (by omega) (ev_neg (by omega) (ev_pos e ?_)))))
    refine ev_succ ?_
    simp only [codemasonref_Shaped.l1]
    refine ev_pos h0 (ev_pos (by omega) (ev_pos (by omega) ?_))
    refine ev_succ ?_
    simp only [codemasonref_Shaped.j2, hzb, wrap_in (x := t - 1) (by omega) (by omega)]
    refine ev_pos (by simp) (ev_pos (by omega) (Ev.bind hb ?_))
    simpa only [if_pos (show (i : Int) < L.length by omega), if_pos (show (0 : Int) ≤ i by omega), if_neg (show ¬ x.f0 = 1 by omega), if_neg (show ¬ x.f0 = 2 by omega), if_pos e] using hrest
theorem shapedF_ev {n : Int} (hn : n < 17592186044416) {l : List S127} {v v' : List Int} {t t' : Int} (h : Sh l v t v' t') (ho : OkL n l) (hv : vals n v) (h0 : 0 ≤ t) (h1 : t ≤ 1000000) : Ev (fun k => codemasonref_Shaped.f k l v t) (v', t') := by
  refine ev_succ ?_
  simp only [codemasonref_Shaped.f]
  exact shaped_ev hn h l 0 ho (by omega) rfl hv h0 h1
theorem runWhile_more {go go' : List Int → Int → RunO} (h : ∀ v t, LeO (go v t) (go' v t)) (x : Int) : ∀ k k', k ≤ k' → ∀ v t, LeO (runWhile go x k v t) (runWhile go' x k' v t)
  | 0, _, _, v, t => LeO.none _
  | k + 1, k', hk, v, t => by
    obtain ⟨m, rfl⟩ : ∃ m, k' = m + 1 := ⟨k' - 1, by omega⟩
    rw [runWhile, runWhile]
    exact LeO.ite (LeO.ite (LeO.refl _) (LeO.ite (LeO.refl _) (LeO.bind (h _ _) (fun o => LeO.ite (runWhile_more h x k m (by omega) _ _) (LeO.refl _))))) (LeO.refl _)
theorem shape_run_more (l : List S127) (v : List Int) (t : Int) {k k' : Nat} (h : k ≤ k') : LeO (shape_run.f k l v t) (shape_run.f k' l v t) := by
  obtain ⟨j, rfl⟩ : ∃ j, k' = k + j := ⟨k' - k, by omega⟩
  exact more_rounds (g := fun k => shape_run.f k l v t) (fun k => shape_run.mono l v t k) k j
theorem shapeRun_ev {n : Int} {l : List S127} {v v' : List Int} {t t' : Int} (h : Sh l v t v' t') : OkL n l → vals n v → 0 ≤ t → t ≤ 1000000 → Ev (fun k => shape_run.f k l v t) (v', t', decide (0 ≤ t')) := by
  have start : ∀ {l : List S127} {v : List Int} {t : Int} {o : List Int × Int × Bool}, Ev (fun k => runLoop k (fun p => shape_run.f k p) l v t) o → Ev (fun k => shape_run.f k l v t) o := by
    intro l v t o h
    refine ev_succ ?_
    simp only [shape_run.f]
    exact h
  have back : ∀ {l : List S127} {v : List Int} {t : Int} {o : List Int × Int × Bool}, Ev (fun k => shape_run.f k l v t) o → Ev (fun k => runLoop k (fun p => shape_run.f k p) l v t) o := fun h => ev_shift h
  induction h with
  | nil v t =>
    intro ho hv h0 h1
    refine start ?_
    simp only [runLoop, decide_eq_true h0]
    exact Ev.now _
  | @code x l v v' t t' e _ ih =>
    intro ho hv h0 h1
    obtain ⟨hc1, hc2⟩ := ho.head.1.2.2.1 e
    refine start ?_
    simp only [runLoop, runOne, if_pos e]
    exact Ev.bind (a := (doing x.f2 v, t, true)) (Ev.bind (blockDo_ev hc2 hc1 hv) (Ev.now _)) (ev_pos (by simp) (back (ih ho.tail (doing_vals hc1 hv) h0 h1)))
  | @both x l v v1 v' t t1 t' e hs1 ht1 _ ih1 ih2 =>
    intro ho hv h0 h1
    have hr := ho.head.1.2.2.2 (by omega)
    have hl := hv.1
    have hle := hs1.less
    have hb := ih1 (ho.arm _) hv h0 h1
    have hrest := back (ih2 ho.tail (hs1.keeps (ho.arm _) hv) ht1 (by omega))
    refine start ?_
    simp only [runLoop, runOne, if_neg (show ¬ x.f0 = 1 by omega), if_pos e]
    refine Ev.bind (a := (v1, t1, true)) (ev_pos (by omega) ?_) (ev_pos (by simp) hrest)
    rw [decide_eq_true ht1] at hb
    exact hb
  | @bothOut x l v v1 t t1 e hs1 ht1 ih1 =>
    intro ho hv h0 h1
    have hr := ho.head.1.2.2.2 (by omega)
    have hl := hv.1
    have hb := ih1 (ho.arm _) hv h0 h1
    refine start ?_
    have hd : decide (0 ≤ t1) = false := decide_eq_false (by omega)
    simp only [runLoop, runOne, if_neg (show ¬ x.f0 = 1 by omega), if_pos e]
    rw [hd] at hb ⊢
    refine Ev.bind (a := (v1, t1, false)) (ev_pos (by omega) hb) (ev_neg (by simp) (Ev.now _))
  | @whileEnd x l v v' t t' e hz _ ih =>
    intro ho hv h0 h1
    have hr := ho.head.1.2.2.2 (by omega)
    have hl := hv.1
    have hrest := back (ih ho.tail hv h0 h1)
    refine start ?_
    simp only [runLoop, runOne, if_neg (show ¬ x.f0 = 1 by omega), if_neg (show ¬ x.f0 = 2 by omega), if_pos e]
    refine Ev.bind (a := (v, t, true)) (ev_succ ?_) (ev_pos (by simp) hrest)
    simp only [runWhile]
    exact ev_pos (by omega) (ev_pos hz (Ev.now _))
  | @whileOut x l v t e hz ht =>
    intro ho hv h0 h1
    have hr := ho.head.1.2.2.2 (by omega)
    have hl := hv.1
    have hd : decide (0 ≤ t - 1) = false := decide_eq_false (by omega)
    refine start ?_
    simp only [runLoop, runOne, if_neg (show ¬ x.f0 = 1 by omega), if_neg (show ¬ x.f0 = 2 by omega), if_pos e]
    rw [hd]
    refine Ev.bind (a := (v, t - 1, false)) (ev_succ ?_) (ev_neg (by simp) (Ev.now _))
    simp only [runWhile, wrap_in (x := t - 1) (by omega) (by omega)]
    exact ev_pos (by omega) (ev_neg hz (ev_pos ht (Ev.now _)))
  | @whileBodyOut x l v v1 t t1 e hz ht hs1 ht1 ih1 =>
    intro ho hv h0 h1
    have hr := ho.head.1.2.2.2 (by omega)
    have hl := hv.1
    have hb := ih1 ho.head.2.1 hv ht (by omega)
    have hd : decide (0 ≤ t1) = false := decide_eq_false (by omega)
    refine start ?_
    simp only [runLoop, runOne, if_neg (show ¬ x.f0 = 1 by omega), if_neg (show ¬ x.f0 = 2 by omega), if_pos e]
    rw [hd] at hb ⊢
    refine Ev.bind (a := (v1, t1, false)) (ev_succ ?_) (ev_neg (by simp) (Ev.now _))
    simp only [runWhile, wrap_in (x := t - 1) (by omega) (by omega)]
    exact ev_pos (by omega) (ev_neg hz (ev_neg (by omega) (Ev.bind (ev_shift hb) (ev_neg (by simp) (Ev.now _)))))
  | @whileGo x l v v1 v' t t1 t' e hz ht hs1 ht1 _ ih1 ih2 =>
    intro ho hv h0 h1
    have hr := ho.head.1.2.2.2 (by omega)
    have hl := hv.1
    have hle := hs1.less
    have hb := ih1 ho.head.2.1 hv ht (by omega)
    rw [decide_eq_true ht1] at hb
    have hrest := back (ih2 ho (hs1.keeps ho.head.2.1 hv) ht1 (by omega))
    refine start ?_
    simp only [runLoop, runOne, if_neg (show ¬ x.f0 = 1 by omega), if_neg (show ¬ x.f0 = 2 by omega), if_pos e] at hrest ⊢
    obtain ⟨K1, hrest⟩ := hrest
    obtain ⟨K2, hb⟩ := hb
    obtain ⟨o, ho1, _⟩ := Option.bind_eq_some_iff.1 (hrest K1 (by omega))
    refine ⟨K1 + K2 + 1, fun k hk => ?_⟩
    obtain ⟨o2, ho3, ho4⟩ := Option.bind_eq_some_iff.1 (hrest k (by omega))
    have e1 := runWhile_more (fun v t => shape_run_more x.f3 v t (show K1 ≤ k by omega)) x.f1 K1 k (by omega) v1 t1 o ho1
    rw [ho3] at e1
    obtain rfl : o2 = o := Option.some.inj e1
    refine Option.bind_eq_some_iff.2 ⟨o2, ?_, ho4⟩
    obtain ⟨m, rfl⟩ : ∃ m, k = m + 1 := ⟨k - 1, by omega⟩
    have e2 := runWhile_more (fun v t => shape_run_more x.f3 v t (show K1 ≤ m + 1 by omega)) x.f1 K1 m (by omega) v1 t1 o2 ho1
    rw [runWhile, wrap_in (x := t - 1) (by omega) (by omega), if_pos (by omega), if_neg (show ¬ List.getD v x.f1.toNat 0 = 0 from hz), if_neg (by omega), show shape_run.f (m + 1) x.f3 v (t - 1) = some (v1, t1, true) from hb (m + 1) (by omega)]
    simp only [Option.bind_some, if_true]
    exact e2
end Go.Proofs.Ytaicamjpcnhjcaa.PA
namespace Go.Proofs.Ytaicamjpcnhjcaa.Pure
open Go.RowKit Go.Proofs.Ytaicamjpcnhjcaa.PA Go.Proofs.YtaicamjpcnhjcaaW.PrintWords Go.Proofs.YtaicamjpcnhjcaaW.PrintLast
set_option linter.unusedVariables false
theorem ShapeRuns_pure (a0 : Int) (l1 : List S127) (l2 : List Int) (w0 : (Lit.int .i64 a0).wf = true) (hg1 : ∀ y ∈ l1, good127 y) (y1 : l1.length * 88 ≤ 140737488351232) (hg2 : ∀ y ∈ l2, in64 y) (y2 : l2.length * 8 ≤ 140737488351232) : ∃ k, codemasonlaw_ShapeRuns.f k a0 l1 l2 = some true := by
  obtain ⟨r, h1, h2, h3⟩ := shapeCheck_ev a0 l1 hg1 y1
  refine Ev.rounds (r := true) ?_
  unfold codemasonlaw_ShapeRuns.f shape_Run.f
  have hnil : Ev (fun k => codemasonref_Ints.f k [] []) true := ints_self [] (by simp)
  by_cases hr : r = 0
  · subst hr
    obtain ⟨v1, v6, ok, _⟩ := h3 rfl
    by_cases he : haveErr a0 l2 = 0
    · have hv := haveErr_zero he
      have hok := okL_of 5 l1 hg1 y1 ok
      obtain ⟨v', t', hs⟩ := sh_ends hok l2 200 hv (by omega)
      have hv' := hs.keeps hok hv
      have hp := shapeRun_ev hs hok hv (by omega) (by omega)
      have hd := shapedF_ev (by omega) hs hok hv (by omega) (by omega)
      have hc := haveCheck_ev a0 l2 (by omega)
      rw [he] at hc
      by_cases ht : 0 ≤ t'
      · rw [decide_eq_true ht] at hp
        refine Ev.bind (a := (v', 0)) (Ev.bind h1 (ev_neg (by simp) (Ev.bind (a := 0) (ev_some he) (ev_neg (by simp) (ev_pos (by omega) (Ev.bind hp (ev_pos (by simp) (Ev.now _)))))))) (Ev.bind h2 (ev_pos (by simp) (Ev.bind hc ?_)))
        refine ev_succ ?_
        simp only [codemasonlaw_ShapeRuns.j0]
        have hvl := hv'.1
        exact ev_pos (by simp) (Ev.bind hd (ev_neg (by simp only; omega) (ev_pos (by simp) (Ev.bind (ints_self v' (by omega)) (Ev.now _)))))
      · rw [decide_eq_false ht] at hp
        refine Ev.bind (a := ([], 7)) (Ev.bind h1 (ev_neg (by simp) (Ev.bind (a := 0) (ev_some he) (ev_neg (by simp) (ev_pos (by omega) (Ev.bind hp (ev_neg (by simp) (Ev.now _)))))))) (Ev.bind h2 (ev_pos (by simp) (Ev.bind hc ?_)))
        refine ev_succ ?_
        simp only [codemasonlaw_ShapeRuns.j0]
        exact ev_pos (by simp) (Ev.bind hd (ev_pos (by simp only; omega) (ev_pos (by simp) (Ev.bind hnil (Ev.now _)))))
    · refine Ev.bind (a := ([], haveErr a0 l2)) (Ev.bind h1 (ev_neg (by simp) (Ev.bind (a := haveErr a0 l2) (Ev.now _) (ev_pos he (Ev.now _))))) (Ev.bind h2 (ev_pos (by simp) (Ev.bind (haveCheck_ev a0 l2 (by omega)) ?_)))
      refine ev_succ ?_
      simp only [codemasonlaw_ShapeRuns.j0]
      exact ev_neg he (ev_pos (by simp) (Ev.bind hnil (Ev.now _)))
  · refine Ev.bind (a := ([], r)) (Ev.bind h1 (ev_pos hr (Ev.now _))) (Ev.bind h2 (ev_neg hr ?_))
    refine ev_succ ?_
    simp only [codemasonlaw_ShapeRuns.j0]
    exact ev_neg hr (ev_pos (by simp) (Ev.bind hnil (Ev.now _)))
end Go.Proofs.Ytaicamjpcnhjcaa.Pure
