/- What came in, read as data, is what the contracts ask for: rows of numbers, of structs, of structs with rows; each number within its kind. -/
import Derived.Test.YtaicamjpcnhjcaaPA1
import Derived.ProofKit
import Derived.OpenShut
import Derived.ChangeOld
import Derived.SizedLaws
import Derived.Deep.Slices
import Derived.Lib.SmallJoins
namespace Go.Proofs.Ytaicamjpcnhjcaa.PA
open Go.RowKit Go.Proofs.YtaicamjpcnhjcaaW.PrintWords Go.Proofs.YtaicamjpcnhjcaaW.PrintLast Go.Proofs.YtaicamjpcnhjcaaW.PrintMore
set_option linter.unusedVariables false
set_option linter.unusedSimpArgs false

def in64 (x : Int) : Prop := -9223372036854775808 ≤ x ∧ x ≤ 9223372036854775807
theorem in64_of {x : Int} (h : (Lit.int .i64 x).wf = true) : in64 x := by
  simp [Lit.wf, IntKind.min, IntKind.max, IntKind.bits, IntKind.signed] at h
  unfold in64
  omega
def good111 (s : S111) : Prop := in64 s.f0 ∧ in64 s.f1 ∧ in64 s.f2 ∧ in64 s.f3 ∧ in64 s.f4
def good79 (b : S79) : Prop := (∀ s ∈ b.f0, good111 s) ∧ b.f0.length * 40 ≤ 140737488351232 ∧ in64 b.f1 ∧ in64 b.f2 ∧ in64 b.f3
def good159 (s : S159) : Prop := in64 s.f0 ∧ in64 s.f1 ∧ in64 s.f2 ∧ in64 s.f3
theorem list4 {α : Type} : ∀ (l : List α), l.length = 4 → ∃ a b c d, l = [a, b, c, d]
  | [a, b, c, d], _ => ⟨a, b, c, d, rfl⟩
theorem list5 {α : Type} : ∀ (l : List α), l.length = 5 → ∃ a b c d e, l = [a, b, c, d, e]
  | [a, b, c, d, e], _ => ⟨a, b, c, d, e, rfl⟩
/-- What a shape itself is: numbers within their kind, rows within the reach. -/
def fit127 (x : S127) : Prop := in64 x.f0 ∧ in64 x.f1 ∧ (∀ s ∈ x.f2, good111 s) ∧ x.f2.length * 40 ≤ 140737488351232 ∧ x.f3.length * 88 ≤ 140737488351232 ∧ x.f4.length * 88 ≤ 140737488351232
/-- The same of all shapes in it: the least such property. -/
def good127 (x : S127) : Prop := ∀ Q : S127 → Prop, (∀ y, fit127 y → (∀ z ∈ y.f3, Q z) → (∀ z ∈ y.f4, Q z) → Q y) → Q x
theorem good127.mk {x : S127} (h : fit127 x) (h3 : ∀ z ∈ x.f3, good127 z) (h4 : ∀ z ∈ x.f4, good127 z) : good127 x := fun Q hQ => hQ x h (fun z hz => h3 z hz Q hQ) (fun z hz => h4 z hz Q hQ)
theorem good127.parts {x : S127} (h : good127 x) : fit127 x ∧ (∀ z ∈ x.f3, good127 z) ∧ ∀ z ∈ x.f4, good127 z :=
  h (fun x => fit127 x ∧ (∀ z ∈ x.f3, good127 z) ∧ ∀ z ∈ x.f4, good127 z) (fun y hy h3 h4 => ⟨hy, fun z hz => good127.mk (h3 z hz).1 (h3 z hz).2.1 (h3 z hz).2.2, fun z hz => good127.mk (h4 z hz).1 (h4 z hz).2.1 (h4 z hz).2.2⟩)
theorem good127.ind {x : S127} (h : good127 x) {Q : S127 → Prop} (hQ : ∀ y, good127 y → (∀ z ∈ y.f3, Q z) → (∀ z ∈ y.f4, Q z) → Q y) : Q x :=
  (h (fun y => good127 y ∧ Q y) (fun y hy h3 h4 => ⟨good127.mk hy (fun z hz => (h3 z hz).1) (fun z hz => (h4 z hz).1), hQ y (good127.mk hy (fun z hz => (h3 z hz).1) (fun z hz => (h4 z hz).1)) (fun z hz => (h3 z hz).2) (fun z hz => (h4 z hz).2)⟩)).2
section
variable {H : Type} {enc : TypeId × Value → H} {w : World} {base : Nat} {spare : Nat → Bool} {held : Bool}

/-- What is read lies within the reach. -/
def Fits (t : TypeId) (x : DataW H) : Prop := ∀ n ∈ x.weights Try.prog t, n ≤ reachBytes
/-- Cells of type t, read with n, are an x of kind d that is good. -/
def Rdr (H : Type) (enc : TypeId × Value → H) (w : World) (base : Nat) (spare : Nat → Bool) (held : Bool) {α : Type} (d : Kd α) (t : TypeId) (G : α → Prop) (n : Nat) : Prop :=
  ∀ cs x, DataW.trod enc Try.prog w base spare held n t cs = some x → Fits t x.1 → ∃ v, d.K w v cs ∧ G v
theorem weights_mem_all {e : TypeId} : ∀ {ds : List (DataW H)} {d : DataW H}, d ∈ ds → ∀ n ∈ d.weights Try.prog e, n ∈ DataW.weightsAll Try.prog e ds
  | d :: r, d', hd, n, hn => by
    simp only [DataW.weightsAll, List.mem_append]
    rcases List.mem_cons.1 hd with rfl | hd
    · exact .inl hn
    · exact .inr (weights_mem_all hd n hn)

theorem addr_add_add (a : Addr) (i j : Nat) : (a.add i).add j = a.add (i + j) := by
  unfold Addr.add
  by_cases h1 : i = 0 <;> by_cases h2 : j = 0 <;> simp [h1, h2, Nat.add_assoc]
theorem list_of {α : Type} (Q : Nat → α → Prop) : ∀ n, (∀ i, i < n → ∃ v, Q i v) → ∃ l : List α, l.length = n ∧ ∀ i v, l[i]? = some v → Q i v
  | 0, _ => ⟨[], rfl, fun i v h => by simp at h⟩
  | n + 1, h => by
    obtain ⟨l, hl, hq⟩ := list_of Q n (fun i hi => h i (by omega))
    obtain ⟨v, hv⟩ := h n (by omega)
    refine ⟨l ++ [v], by simp [hl], fun i u hu => ?_⟩
    rcases Nat.lt_or_ge i n with hi | hi
    · rw [List.getElem?_append_left (by omega)] at hu
      exact hq i u hu
    · rw [List.getElem?_append_right (by omega), hl] at hu
      have h0 : i - n = 0 := by
        have := (List.getElem?_eq_some_iff.1 hu).1
        simp at this
        omega
      rw [h0] at hu
      obtain rfl : v = u := by simpa using hu
      obtain rfl : i = n := by omega
      exact hv
theorem rdr_row {α : Type} {d : Kd α} {t e : TypeId} {G : α → Prop} {n : Nat} (ht : Try.prog.underlying t = some (.slice e)) (hc : Try.prog.cellsOf e = d.sz) (hd : ∀ m, m < n → Rdr H enc w base spare held d e G m)
    {B : Nat} (hB : Try.prog.bytesOf e = B) {cs : List Value} {x} (h : DataW.trod enc Try.prog w base spare held n t cs = some x) (hfit : Fits t x.1) :
    ∃ A len cap l, cs = [.slice A len cap] ∧ len ≤ cap ∧ List.length l = len ∧ d.C w A len l ∧ (∀ y ∈ l, G y) ∧ len * B ≤ 140737488351232 := by
  rcases DataW.trod_slice ht h with ⟨rfl, _⟩ | ⟨a, len, cap, elems, rest, m, rfl, rfl, hx, hb, hl, hm, hlen, hel, _⟩
  · exact ⟨none, 0, 0, [], rfl, Nat.le_refl _, rfl, ⟨rfl, by omega, fun h => absurd h (by omega)⟩, fun y hy => absurd hy (by simp), by omega⟩
  · have hq : ∀ i, i < len → ∃ v, (∃ c, c.length = d.sz ∧ d.K w v c ∧ ∀ j u, c[j]? = some u → w.cell? (a.add (i * d.sz + j)) = some u) ∧ G v := by
      intro i hi
      have h1 := hel i hi
      rw [List.getElem?_eq_getElem (by omega), Option.bind_eq_some_iff] at h1
      obtain ⟨c, hcell, htr⟩ := h1
      have hfe : Fits e (elems[i]'(by omega)).1 := fun n hn => hfit n (by
        rw [hx]
        simp only [DataW.weights, ht, List.mem_cons, List.mem_append]
        exact .inr (.inl (weights_mem_all (List.mem_map_of_mem (List.getElem_mem _)) n hn)))
      obtain ⟨v, hK, hG⟩ := hd m (by omega) c _ htr hfe
      obtain ⟨_, hcl, hcs⟩ := World.cells?_some hcell
      refine ⟨v, ⟨c, d.K_len hK, hK, fun j u hu => ?_⟩, hG⟩
      have hj : j < d.sz := by have := (List.getElem?_eq_some_iff.1 hu).1; rw [d.K_len hK] at this; exact this
      have hcj := hcs j (by rw [hc]; exact hj)
      rw [hc] at hcj
      rw [← addr_add_add, hcj]
      exact hu
    obtain ⟨l, hll, hq⟩ := list_of _ len hq
    refine ⟨some a, len, cap, l, rfl, hl, hll, ⟨hll, by unfold maxLen at hm; omega, fun _ => ⟨a, rfl, fun j p hp => (hq j p hp).1⟩⟩, fun y hy => ?_, ?_⟩
    rotate_left
    · have z := hfit ((elems.length + rest.length) * Try.prog.bytesOf e) (by rw [hx]; simp [DataW.weights, ht])
      rw [hB, hlen] at z
      exact Nat.le_trans (Nat.mul_le_mul_right _ (by omega)) z
    obtain ⟨i, hi⟩ := List.getElem?_of_mem hy
    exact (hq i y hi).2
theorem rdr_int {k : IntKind} {t : TypeId} (ht : Try.prog.underlying t = some (.int k)) {n : Nat} {cs : List Value} {x} (h : DataW.trod enc Try.prog w base spare held n t cs = some x) : ∃ v, cs = [.int k v] ∧ (Lit.int k v).wf = true := by
  obtain ⟨v, e, _, hw⟩ := DataW.trod_int ht h
  exact ⟨v, e, hw⟩
theorem cells111 : Try.prog.cellsOf 111 = 5 := by kernel_rfl
theorem cells79 : Try.prog.cellsOf 79 = 4 := by kernel_rfl
theorem cells159 : Try.prog.cellsOf 159 = 4 := by kernel_rfl
theorem cells3 : Try.prog.cellsOf 3 = 1 := by kernel_rfl
theorem bytes111 : Try.prog.bytesOf 111 = 40 := by kernel_rfl
theorem bytes127 : Try.prog.bytesOf 127 = 88 := by kernel_rfl
theorem cells127 : Try.prog.cellsOf 127 = 5 := by kernel_rfl
theorem cells22 : Try.prog.cellsOf 22 = 1 := by kernel_rfl
theorem cells77 : Try.prog.cellsOf 77 = 1 := by kernel_rfl
/-- Field i of a struct, by its own cells. -/
theorem field_of {t : TypeId} {fs : Array Field} {n : Nat} {cs : List Value} {x} (ht : Try.prog.underlying t = some (.struct fs)) (h : DataW.trod enc Try.prog w base spare held n t cs = some x) (hfit : Fits t x.1) :
    cs.length = Try.prog.cellsOf t ∧ ∃ m, m < n ∧ ∀ (i : Nat) (t o : Nat), (fs[i]?).map (fun f => (f.type, f.offset)) = some (t, o) → ∃ y, DataW.trod enc Try.prog w base spare held m t ((cs.drop o).take (Try.prog.cellsOf t)) = some y ∧ Fits t y.1 := by
  obtain ⟨xs, m, rfl, hx, hl, hxs, hf⟩ := DataW.trod_struct ht h
  refine ⟨hl, m, by omega, fun i t o hi => ?_⟩
  obtain ⟨f, hi2, hh⟩ := Option.map_eq_some_iff.1 hi
  simp only [Prod.mk.injEq] at hh
  obtain ⟨rfl, rfl⟩ := hh
  have hlt : i < xs.length := by rw [hxs]; exact (Array.getElem?_eq_some_iff.1 hi2).1
  refine ⟨xs[i], by rw [hf i f hi2, List.getElem?_eq_getElem hlt], fun k hk => hfit k ?_⟩
  rw [hx]
  simp only [DataW.weights, ht]
  refine DataW.weights_mem_each (j := i) (t := f.type) (d := xs[i].1) ?_ ?_ k hk
  · rw [List.getElem?_map, Array.getElem?_toList, hi2]; rfl
  · rw [List.getElem?_map, List.getElem?_eq_getElem hlt]; rfl
theorem rdr111 (n : Nat) : Rdr H enc w base spare held k111 111 good111 n := by
  intro cs x h hfit
  obtain ⟨hl, m, hm, hf⟩ := field_of Try.underlying111 h hfit
  rw [cells111] at hl
  obtain ⟨c0, c1, c2, c3, c4, rfl⟩ := list5 cs hl
  obtain ⟨y0, h0, f0⟩ := hf 0 3 0 rfl
  obtain ⟨y1, h1, f1⟩ := hf 1 3 1 rfl
  obtain ⟨y2, h2, f2⟩ := hf 2 3 2 rfl
  obtain ⟨y3, h3, f3⟩ := hf 3 3 3 rfl
  obtain ⟨y4, h4, f4⟩ := hf 4 3 4 rfl
  simp only [cells3] at h0 h1 h2 h3 h4
  obtain ⟨v0, e0, w0⟩ := rdr_int Try.underlying3 h0
  obtain ⟨v1, e1, w1⟩ := rdr_int Try.underlying3 h1
  obtain ⟨v2, e2, w2⟩ := rdr_int Try.underlying3 h2
  obtain ⟨v3, e3, w3⟩ := rdr_int Try.underlying3 h3
  obtain ⟨v4, e4, w4⟩ := rdr_int Try.underlying3 h4
  simp at e0 e1 e2 e3 e4
  subst e0 e1 e2 e3 e4
  exact ⟨⟨v0, v1, v2, v3, v4⟩, k111_mk w _, in64_of w0, in64_of w1, in64_of w2, in64_of w3, in64_of w4⟩
theorem rdr159 (n : Nat) : Rdr H enc w base spare held k159 159 good159 n := by
  intro cs x h hfit
  obtain ⟨hl, m, hm, hf⟩ := field_of Try.underlying159 h hfit
  rw [cells159] at hl
  obtain ⟨c0, c1, c2, c3, rfl⟩ := list4 cs hl
  obtain ⟨y0, h0, f0⟩ := hf 0 3 0 rfl
  obtain ⟨y1, h1, f1⟩ := hf 1 3 1 rfl
  obtain ⟨y2, h2, f2⟩ := hf 2 3 2 rfl
  obtain ⟨y3, h3, f3⟩ := hf 3 3 3 rfl
  simp only [cells3] at h0 h1 h2 h3
  obtain ⟨v0, e0, w0⟩ := rdr_int Try.underlying3 h0
  obtain ⟨v1, e1, w1⟩ := rdr_int Try.underlying3 h1
  obtain ⟨v2, e2, w2⟩ := rdr_int Try.underlying3 h2
  obtain ⟨v3, e3, w3⟩ := rdr_int Try.underlying3 h3
  simp at e0 e1 e2 e3
  subst e0 e1 e2 e3
  exact ⟨⟨v0, v1, v2, v3⟩, k159_mk w _, in64_of w0, in64_of w1, in64_of w2, in64_of w3⟩
theorem rdr79 (n : Nat) : Rdr H enc w base spare held k79 79 good79 n := by
  intro cs x h hfit
  obtain ⟨hl, m, hm, hf⟩ := field_of Try.underlying79 h hfit
  rw [cells79] at hl
  obtain ⟨c0, c1, c2, c3, rfl⟩ := list4 cs hl
  obtain ⟨y0, h0, f0⟩ := hf 0 77 0 rfl
  obtain ⟨y1, h1, f1⟩ := hf 1 3 1 rfl
  obtain ⟨y2, h2, f2⟩ := hf 2 3 2 rfl
  obtain ⟨y3, h3, f3⟩ := hf 3 3 3 rfl
  simp only [cells3, cells77] at h0 h1 h2 h3
  obtain ⟨A, len, cap, l, e0, hc, rfl, hC, hG, hsz⟩ := rdr_row (d := k111) (G := good111) Try.underlying77 cells111 (fun m _ => rdr111 m) bytes111 h0 f0
  obtain ⟨v1, e1, w1⟩ := rdr_int Try.underlying3 h1
  obtain ⟨v2, e2, w2⟩ := rdr_int Try.underlying3 h2
  obtain ⟨v3, e3, w3⟩ := rdr_int Try.underlying3 h3
  simp at e0 e1 e2 e3
  subst e0 e1 e2 e3
  exact ⟨⟨l, v1, v2, v3⟩, k79_mk w ⟨l, v1, v2, v3⟩ hc hC, hG, hsz, in64_of w1, in64_of w2, in64_of w3⟩
theorem rdr127 (n : Nat) : Rdr H enc w base spare held k127 127 good127 n := by
  induction n using Nat.strongRecOn with
  | ind n ih =>
    intro cs x h hfit
    obtain ⟨hl, m, hm, hf⟩ := field_of Try.underlying127 h hfit
    rw [cells127] at hl
    obtain ⟨c0, c1, c2, c3, c4, rfl⟩ := list5 cs hl
    obtain ⟨y0, h0, f0⟩ := hf 0 3 0 rfl
    obtain ⟨y1, h1, f1⟩ := hf 1 3 1 rfl
    obtain ⟨y2, h2, f2⟩ := hf 2 77 2 rfl
    obtain ⟨y3, h3, f3⟩ := hf 3 22 3 rfl
    obtain ⟨y4, h4, f4⟩ := hf 4 22 4 rfl
    simp only [cells3, cells77, cells22] at h0 h1 h2 h3 h4
    obtain ⟨v0, e0, w0⟩ := rdr_int Try.underlying3 h0
    obtain ⟨v1, e1, w1⟩ := rdr_int Try.underlying3 h1
    obtain ⟨A2, len2, cap2, l2, e2, hc2, rfl, hC2, hG2, hs2⟩ := rdr_row (d := k111) (G := good111) Try.underlying77 cells111 (fun m _ => rdr111 m) bytes111 h2 f2
    obtain ⟨A3, len3, cap3, l3, e3, hc3, rfl, hC3, hG3, hs3⟩ := rdr_row (d := k127) (G := good127) Try.underlying22 cells127 (fun q hq => ih q (by omega)) bytes127 h3 f3
    obtain ⟨A4, len4, cap4, l4, e4, hc4, rfl, hC4, hG4, hs4⟩ := rdr_row (d := k127) (G := good127) Try.underlying22 cells127 (fun q hq => ih q (by omega)) bytes127 h4 f4
    simp at e0 e1 e2 e3 e4
    subst e0 e1 e2 e3 e4
    exact ⟨⟨v0, v1, l2, l3, l4⟩, k127_mk w ⟨v0, v1, l2, l3, l4⟩ hc2 hC2 hc3 hC3 hc4 hC4, good127.mk ⟨in64_of w0, in64_of w1, hG2, hs2, hs3, hs4⟩ hG3 hG4⟩
/-- A slice that came in, opened. -/
theorem open_row {α : Type} {d : Kd α} {t e : TypeId} {G : α → Prop} (ht : Try.prog.underlying t = some (.slice e)) (hc : Try.prog.cellsOf e = d.sz) (hd : ∀ m, Rdr H enc w base spare held d e G m) {B : Nat} (hB : Try.prog.bytesOf e = B)
    {ts : List TypeId} {ds : List (DataW H)} {j : Nat} {a : Option Addr} {len cap : Nat} {x : DataW H} {ps : List MemPlace} (hsz : (DataW.weightsEach Try.prog ts ds).all (· ≤ reachBytes) = true) (hj : ts[j]? = some t) (hx : ds[j]? = some x)
    (h : DataW.Trod enc Try.prog w base spare held t (.slice a len cap) x ps) : ∃ l, List.length l = len ∧ len ≤ cap ∧ d.C w a len l ∧ (∀ y ∈ l, G y) ∧ l.length * B ≤ 140737488351232 := by
  obtain ⟨fuel, hf⟩ := h
  have hfit : Fits t x := fun n hn => by
    have := List.all_eq_true.1 hsz n (DataW.weights_mem_each hj hx n hn)
    simpa using this
  obtain ⟨A, len', cap', l, hcs, h1, h2, h3, h4, h5⟩ := rdr_row ht hc (fun m _ => hd m) hB hf hfit
  simp [Value.cells] at hcs
  obtain ⟨rfl, rfl, rfl⟩ := hcs
  exact ⟨l, h2, h1, h3, h4, by rw [h2]; exact h5⟩
theorem rdrInt (n : Nat) : Rdr H enc w base spare held (Kd.int .i64) 3 in64 n := by
  intro cs x h _
  obtain ⟨v, rfl, hw⟩ := rdr_int Try.underlying3 h
  exact ⟨v, rfl, in64_of hw⟩
end
end Go.Proofs.Ytaicamjpcnhjcaa.PA
