/- What came in, read as data, is what the contracts ask for: rows of numbers, of structs, of structs with rows; each number within its kind. -/
import Derived.Test.YtaicamjpcnhjcaaPA1
import Derived.ProofKit
import Derived.OpenShut
import Derived.ChangeOld
import Derived.SizedLaws
import Derived.Deep.Slices
import Derived.Lib.SmallJoins
namespace Go.Proofs.Ytaicamjpcnhjcaa.PA
open Go.RowKit Go.Proofs.YtaicamjpcnhjcaaW.PrintWords Go.Proofs.YtaicamjpcnhjcaaW.PrintLast Go.Proofs.YtaicamjpcnhjcaaW.PrintMore
set_option linter.unusedVariables false
set_option linter.unusedSimpArgs false

def in64 (x : Int) : Prop := -9223372036854775808 ≤ x ∧ x ≤ 9223372036854775807
theorem in64_of {x : Int} (h : (Lit.int .i64 x).wf = true) : in64 x := by
  simp [Lit.wf, IntKind.min, IntKind.max, IntKind.bits, IntKind.signed] at h
  unfold in64
  omega
def good111 (s : S111) : Prop := in64 s.f0 ∧ in64 s.f1 ∧ in64 s.f2 ∧ in64 s.f3 ∧ in64 s.f4
def good79 (b : S79) : Prop := (∀ s ∈ b.f0, good111 s) ∧ in64 b.f1 ∧ in64 b.f2 ∧ in64 b.f3
def good159 (s : S159) : Prop := in64 s.f0 ∧ in64 s.f1 ∧ in64 s.f2 ∧ in64 s.f3
theorem list4 {α : Type} : ∀ (l : List α), l.length = 4 → ∃ a b c d, l = [a, b, c, d]
  | [a, b, c, d], _ => ⟨a, b, c, d, rfl⟩
theorem list5 {α : Type} : ∀ (l : List α), l.length = 5 → ∃ a b c d e, l = [a, b, c, d, e]
  | [a, b, c, d, e], _ => ⟨a, b, c, d, e, rfl⟩
section
variable {H : Type} {enc : TypeId × Value → H} {w : World} {base : Nat} {spare : Nat → Bool} {held : Bool}

/-- Cells of type t, read with n, are an x of kind d that is good. -/
def Rdr (H : Type) (enc : TypeId × Value → H) (w : World) (base : Nat) (spare : Nat → Bool) (held : Bool) {α : Type} (d : Kd α) (t : TypeId) (G : α → Prop) (n : Nat) : Prop :=
  ∀ cs x, DataW.trod enc Try.prog w base spare held n t cs = some x → ∃ v, d.K w v cs ∧ G v

theorem addr_add_add (a : Addr) (i j : Nat) : (a.add i).add j = a.add (i + j) := by
  unfold Addr.add
  by_cases h1 : i = 0 <;> by_cases h2 : j = 0 <;> simp [h1, h2, Nat.add_assoc]
theorem list_of {α : Type} (Q : Nat → α → Prop) : ∀ n, (∀ i, i < n → ∃ v, Q i v) → ∃ l : List α, l.length = n ∧ ∀ i v, l[i]? = some v → Q i v
  | 0, _ => ⟨[], rfl, fun i v h => by simp at h⟩
  | n + 1, h => by
    obtain ⟨l, hl, hq⟩ := list_of Q n (fun i hi => h i (by omega))
    obtain ⟨v, hv⟩ := h n (by omega)
    refine ⟨l ++ [v], by simp [hl], fun i u hu => ?_⟩
    rcases Nat.lt_or_ge i n with hi | hi
    · rw [List.getElem?_append_left (by omega)] at hu
      exact hq i u hu
    · rw [List.getElem?_append_right (by omega), hl] at hu
      have h0 : i - n = 0 := by
        have := (List.getElem?_eq_some_iff.1 hu).1
        simp at this
        omega
      rw [h0] at hu
      obtain rfl : v = u := by simpa using hu
      obtain rfl : i = n := by omega
      exact hv
theorem rdr_row {α : Type} {d : Kd α} {t e : TypeId} {G : α → Prop} {n : Nat} (ht : Try.prog.underlying t = some (.slice e)) (hc : Try.prog.cellsOf e = d.sz) (hd : ∀ m, m < n → Rdr H enc w base spare held d e G m)
    {cs : List Value} {x} (h : DataW.trod enc Try.prog w base spare held n t cs = some x) :
    ∃ A len cap l, cs = [.slice A len cap] ∧ len ≤ cap ∧ List.length l = len ∧ d.C w A len l ∧ ∀ y ∈ l, G y := by
  rcases DataW.trod_slice ht h with ⟨rfl, _⟩ | ⟨a, len, cap, elems, rest, m, rfl, rfl, _, hb, hl, hm, hlen, hel, _⟩
  · exact ⟨none, 0, 0, [], rfl, Nat.le_refl _, rfl, ⟨rfl, by omega, fun h => absurd h (by omega)⟩, fun y hy => absurd hy (by simp)⟩
  · have hq : ∀ i, i < len → ∃ v, (∃ c, c.length = d.sz ∧ d.K w v c ∧ ∀ j u, c[j]? = some u → w.cell? (a.add (i * d.sz + j)) = some u) ∧ G v := by
      intro i hi
      have h1 := hel i hi
      rw [List.getElem?_eq_getElem (by omega), Option.bind_eq_some_iff] at h1
      obtain ⟨c, hcell, htr⟩ := h1
      obtain ⟨v, hK, hG⟩ := hd m (by omega) c _ htr
      obtain ⟨_, hcl, hcs⟩ := World.cells?_some hcell
      refine ⟨v, ⟨c, d.K_len hK, hK, fun j u hu => ?_⟩, hG⟩
      have hj : j < d.sz := by have := (List.getElem?_eq_some_iff.1 hu).1; rw [d.K_len hK] at this; exact this
      have hcj := hcs j (by rw [hc]; exact hj)
      rw [hc] at hcj
      rw [← addr_add_add, hcj]
      exact hu
    obtain ⟨l, hll, hq⟩ := list_of _ len hq
    refine ⟨some a, len, cap, l, rfl, hl, hll, ⟨hll, by unfold maxLen at hm; omega, fun _ => ⟨a, rfl, fun j p hp => (hq j p hp).1⟩⟩, fun y hy => ?_⟩
    obtain ⟨i, hi⟩ := List.getElem?_of_mem hy
    exact (hq i y hi).2
theorem rdr_int {k : IntKind} {t : TypeId} (ht : Try.prog.underlying t = some (.int k)) {n : Nat} {cs : List Value} {x} (h : DataW.trod enc Try.prog w base spare held n t cs = some x) : ∃ v, cs = [.int k v] ∧ (Lit.int k v).wf = true := by
  obtain ⟨v, e, _, hw⟩ := DataW.trod_int ht h
  exact ⟨v, e, hw⟩
theorem cells111 : Try.prog.cellsOf 111 = 5 := by kernel_rfl
theorem cells79 : Try.prog.cellsOf 79 = 4 := by kernel_rfl
theorem cells159 : Try.prog.cellsOf 159 = 4 := by kernel_rfl
theorem cells3 : Try.prog.cellsOf 3 = 1 := by kernel_rfl
theorem cells77 : Try.prog.cellsOf 77 = 1 := by kernel_rfl
/-- Field i of a struct, by its own cells. -/
theorem field_of {t : TypeId} {fs : Array Field} {n : Nat} {cs : List Value} {x} (ht : Try.prog.underlying t = some (.struct fs)) (h : DataW.trod enc Try.prog w base spare held n t cs = some x) :
    cs.length = Try.prog.cellsOf t ∧ ∃ m, m < n ∧ ∀ (i : Nat) (t o : Nat), (fs[i]?).map (fun f => (f.type, f.offset)) = some (t, o) → ∃ y, DataW.trod enc Try.prog w base spare held m t ((cs.drop o).take (Try.prog.cellsOf t)) = some y := by
  obtain ⟨xs, m, rfl, _, hl, hxs, hf⟩ := DataW.trod_struct ht h
  refine ⟨hl, m, by omega, fun i t o hi => ?_⟩
  obtain ⟨f, hi2, hh⟩ := Option.map_eq_some_iff.1 hi
  simp only [Prod.mk.injEq] at hh
  obtain ⟨rfl, rfl⟩ := hh
  have hlt : i < xs.length := by rw [hxs]; exact (Array.getElem?_eq_some_iff.1 hi2).1
  exact ⟨xs[i], by rw [hf i f hi2, List.getElem?_eq_getElem hlt]⟩
theorem rdr111 (n : Nat) : Rdr H enc w base spare held k111 111 good111 n := by
  intro cs x h
  obtain ⟨hl, m, _, hf⟩ := field_of Try.underlying111 h
  rw [cells111] at hl
  obtain ⟨c0, c1, c2, c3, c4, rfl⟩ := list5 cs hl
  obtain ⟨y0, h0⟩ := hf 0 3 0 rfl
  obtain ⟨y1, h1⟩ := hf 1 3 1 rfl
  obtain ⟨y2, h2⟩ := hf 2 3 2 rfl
  obtain ⟨y3, h3⟩ := hf 3 3 3 rfl
  obtain ⟨y4, h4⟩ := hf 4 3 4 rfl
  simp only [cells3] at h0 h1 h2 h3 h4
  obtain ⟨v0, e0, w0⟩ := rdr_int Try.underlying3 h0
  obtain ⟨v1, e1, w1⟩ := rdr_int Try.underlying3 h1
  obtain ⟨v2, e2, w2⟩ := rdr_int Try.underlying3 h2
  obtain ⟨v3, e3, w3⟩ := rdr_int Try.underlying3 h3
  obtain ⟨v4, e4, w4⟩ := rdr_int Try.underlying3 h4
  simp at e0 e1 e2 e3 e4
  subst e0 e1 e2 e3 e4
  exact ⟨⟨v0, v1, v2, v3, v4⟩, k111_mk w _, in64_of w0, in64_of w1, in64_of w2, in64_of w3, in64_of w4⟩
theorem rdr159 (n : Nat) : Rdr H enc w base spare held k159 159 good159 n := by
  intro cs x h
  obtain ⟨hl, m, _, hf⟩ := field_of Try.underlying159 h
  rw [cells159] at hl
  obtain ⟨c0, c1, c2, c3, rfl⟩ := list4 cs hl
  obtain ⟨y0, h0⟩ := hf 0 3 0 rfl
  obtain ⟨y1, h1⟩ := hf 1 3 1 rfl
  obtain ⟨y2, h2⟩ := hf 2 3 2 rfl
  obtain ⟨y3, h3⟩ := hf 3 3 3 rfl
  simp only [cells3] at h0 h1 h2 h3
  obtain ⟨v0, e0, w0⟩ := rdr_int Try.underlying3 h0
  obtain ⟨v1, e1, w1⟩ := rdr_int Try.underlying3 h1
  obtain ⟨v2, e2, w2⟩ := rdr_int Try.underlying3 h2
  obtain ⟨v3, e3, w3⟩ := rdr_int Try.underlying3 h3
  simp at e0 e1 e2 e3
  subst e0 e1 e2 e3
  exact ⟨⟨v0, v1, v2, v3⟩, k159_mk w _, in64_of w0, in64_of w1, in64_of w2, in64_of w3⟩
theorem rdr79 (n : Nat) : Rdr H enc w base spare held k79 79 good79 n := by
  intro cs x h
  obtain ⟨hl, m, _, hf⟩ := field_of Try.underlying79 h
  rw [cells79] at hl
  obtain ⟨c0, c1, c2, c3, rfl⟩ := list4 cs hl
  obtain ⟨y0, h0⟩ := hf 0 77 0 rfl
  obtain ⟨y1, h1⟩ := hf 1 3 1 rfl
  obtain ⟨y2, h2⟩ := hf 2 3 2 rfl
  obtain ⟨y3, h3⟩ := hf 3 3 3 rfl
  simp only [cells3, cells77] at h0 h1 h2 h3
  obtain ⟨A, len, cap, l, e0, hc, rfl, hC, hG⟩ := rdr_row (d := k111) (G := good111) Try.underlying77 cells111 (fun m _ => rdr111 m) h0
  obtain ⟨v1, e1, w1⟩ := rdr_int Try.underlying3 h1
  obtain ⟨v2, e2, w2⟩ := rdr_int Try.underlying3 h2
  obtain ⟨v3, e3, w3⟩ := rdr_int Try.underlying3 h3
  simp at e0 e1 e2 e3
  subst e0 e1 e2 e3
  exact ⟨⟨l, v1, v2, v3⟩, k79_mk w ⟨l, v1, v2, v3⟩ hc hC, hG, in64_of w1, in64_of w2, in64_of w3⟩
/-- A slice takes no more than the reach. -/
theorem sized_row {t e : TypeId} {a : Option Addr} {len cap : Nat} {d : DataW H} {ps : List MemPlace} {ts : List TypeId} {ds : List (DataW H)} {j : Nat}
    (hsz : (DataW.weightsEach Try.prog ts ds).all (· ≤ reachBytes) = true) (ht : ts[j]? = some t) (hd : ds[j]? = some d) (hu : Try.prog.underlying t = some (.slice e)) {B : Nat} (hB : Try.prog.bytesOf e = B)
    (h : DataW.Trod enc Try.prog w base spare held t (.slice a len cap) d ps) : len * B ≤ 140737488351232 := by
  obtain ⟨fuel, hf⟩ := h
  rcases DataW.trod_slice hu hf with ⟨hcs, _⟩ | ⟨x, l, c, elems, rest, m, _, hcs, hx, _, _, _, hlen, _⟩
  · simp [Value.cells] at hcs
    obtain ⟨rfl, rfl, rfl⟩ := hcs
    simp
  · simp [Value.cells] at hcs
    obtain ⟨rfl, rfl, rfl⟩ := hcs
    obtain ⟨hx, _⟩ := Prod.mk.inj hx
    subst hx
    have z := sized_slice hsz ht hd hu
    rw [hB] at z
    simp only [List.length_map, hlen] at z
    exact Nat.le_trans (Nat.mul_le_mul_right _ (by omega)) z
/-- A slice that came in, opened. -/
theorem open_row {α : Type} {d : Kd α} {t e : TypeId} {G : α → Prop} (ht : Try.prog.underlying t = some (.slice e)) (hc : Try.prog.cellsOf e = d.sz) (hd : ∀ m, Rdr H enc w base spare held d e G m)
    {a : Option Addr} {len cap : Nat} {x : DataW H} {ps : List MemPlace} (h : DataW.Trod enc Try.prog w base spare held t (.slice a len cap) x ps) : ∃ l, List.length l = len ∧ len ≤ cap ∧ d.C w a len l ∧ ∀ y ∈ l, G y := by
  obtain ⟨fuel, hf⟩ := h
  obtain ⟨A, len', cap', l, hcs, h1, h2, h3, h4⟩ := rdr_row ht hc (fun m _ => hd m) hf
  simp [Value.cells] at hcs
  obtain ⟨rfl, rfl, rfl⟩ := hcs
  exact ⟨l, h2, h1, h3, h4⟩
theorem rdrInt (n : Nat) : Rdr H enc w base spare held (Kd.int .i64) 3 in64 n := by
  intro cs x h
  obtain ⟨v, rfl, hw⟩ := rdr_int Try.underlying3 h
  exact ⟨v, rfl, in64_of hw⟩
end
end Go.Proofs.Ytaicamjpcnhjcaa.PA
