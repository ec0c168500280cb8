/- Texts of one proof, merged: PA2, Pu8. -/
import Derived.Test.YtaicamjpcnhjcaaMMachCodes6
import Derived.ProofKit
import Derived.OpenShut
import Derived.ChangeOld
import Derived.SizedLaws
import Derived.Deep.Slices
import Derived.Lib.SmallJoins
namespace Go.Proofs.Ytaicamjpcnhjcaa.PA
open Go.RowKit Go.Proofs.YtaicamjpcnhjcaaW.PrintWords Go.Proofs.YtaicamjpcnhjcaaW.PrintLast Go.Proofs.YtaicamjpcnhjcaaW.PrintMore
set_option linter.unusedVariables false
set_option linter.unusedSimpArgs false
def in64 (x : Int) : Prop := -9223372036854775808 ≤ x ∧ x ≤ 9223372036854775807
theorem in64_of {x : Int} (h : (Lit.int .i64 x).wf = true) : in64 x := by
  simp [Lit.wf, IntKind.min, IntKind.max, IntKind.bits, IntKind.signed] at h
  unfold in64
  omega
def good111 (s : S111) : Prop := in64 s.f0 ∧ in64 s.f1 ∧ in64 s.f2 ∧ in64 s.f3 ∧ in64 s.f4
def good79 (b : S79) : Prop := (∀ s ∈ b.f0, good111 s) ∧ b.f0.length * 40 ≤ 140737488351232 ∧ in64 b.f1 ∧ in64 b.f2 ∧ in64 b.f3
theorem list4 {α : Type} : ∀ (l : List α), l.length = 4 → ∃ a b c d, l = [a, b, c, d]
  | [a, b, c, d], _ => ⟨a, b, c, d, rfl⟩
theorem list5 {α : Type} : ∀ (l : List α), l.length = 5 → ∃ a b c d e, l = [a, b, c, d, e]
  | [a, b, c, d, e], _ => ⟨a, b, c, d, e, rfl⟩
section
variable {H : Type} {enc : TypeId × Value → H} {w : World} {base : Nat} {spare : Nat → Bool} {held : Bool}
def Fits (t : TypeId) (x : DataW H) : Prop := ∀ n ∈ x.weights Try.prog t, n ≤ reachBytes
def Rdr (H : Type) (enc : TypeId × Value → H) (w : World) (base : Nat) (spare : Nat → Bool) (held : Bool) {α : Type} (d : Kd α) (t : TypeId) (G : α → Prop) (n : Nat) : Prop :=
  ∀ cs x, DataW.trod enc Try.prog w base spare held n t cs = some x → Fits t x.1 → ∃ v, d.K w v cs ∧ G v
theorem weights_mem_all {e : TypeId} : ∀ {ds : List (DataW H)} {d : DataW H}, d ∈ ds → ∀ n ∈ d.weights Try.prog e, n ∈ DataW.weightsAll Try.prog e ds
  | d :: r, d', hd, n, hn => by
    simp only [DataW.weightsAll, List.mem_append]
    rcases List.mem_cons.1 hd with rfl | hd
    · exact .inl hn
    · exact .inr (weights_mem_all hd n hn)
theorem addr_add_add (a : Addr) (i j : Nat) : (a.add i).add j = a.add (i + j) := by
  unfold Addr.add
  by_cases h1 : i = 0 <;> by_cases h2 : j = 0 <;> simp [h1, h2, Nat.add_assoc]
theorem list_of {α : Type} (Q : Nat → α → Prop) : ∀ n, (∀ i, i < n → ∃ v, Q i v) → ∃ l : List α, l.length = n ∧ ∀ i v, l[i]? = some v → Q i v
  | 0, _ => ⟨[], rfl, fun i v h => by simp at h⟩
  | n + 1, h => by
    obtain ⟨l, hl, hq⟩ := list_of Q n (fun i hi => h i (by omega))
    obtain ⟨v, hv⟩ := h n (by omega)
    refine ⟨l ++ [v], by simp [hl], fun i u hu => ?_⟩
    rcases Nat.lt_or_ge i n with hi | hi
    · rw [List.getElem?_append_left (by omega)] at hu
      exact hq i u hu
    · rw [List.getElem?_append_right (by omega), hl] at hu
      have h0 : i - n = 0 := by
        have := (List.getElem?_eq_some_iff.1 hu).1
        simp at this
        omega
      rw [h0] at hu
      obtain rfl : v = u := by simpa using hu
      obtain rfl : i = n := by omega
      exact hv
theorem rdr_row {α : Type} {d : Kd α} {t e : TypeId} {G : α → Prop} {n : Nat} (ht : Try.prog.underlying t = some (.slice e)) (hc : Try.prog.cellsOf e = d.sz) (hd : ∀ m, m < n → Rdr H enc w base spare held d e G m)
    {B : Nat} (hB : Try.prog.bytesOf e = B) {cs : List Value} {x} (h : DataW.trod enc Try.prog w base spare held n t cs = some x) (hfit : Fits t x.1) :
    ∃ A len cap l, cs = [.slice A len cap] ∧ len ≤ cap ∧ List.length l = len ∧ d.C w A len l ∧ (∀ y ∈ l, G y) ∧ len * B ≤ 140737488351232 := by
  rcases DataW.trod_slice ht h with ⟨rfl, _⟩ | ⟨a, len, cap, elems, rest, m, rfl, rfl, hx, hb, hl, hm, hlen, hel, _⟩
  · exact ⟨none, 0, 0, [], rfl, Nat.le_refl _, rfl, ⟨rfl, by omega, fun h => absurd h (by omega)⟩, fun y hy => absurd hy (by simp), by omega⟩
  · have hq : ∀ i, i < len → ∃ v, (∃ c, c.length = d.sz ∧ d.K w v c ∧ ∀ j u, c[j]? = some u → w.cell? (a.add (i * d.sz + j)) = some u) ∧ G v := by
      intro i hi
      have h1 := hel i hi
      rw [List.getElem?_eq_getElem (by omega), Option.bind_eq_some_iff] at h1
      obtain ⟨c, hcell, htr⟩ := h1
      have hfe : Fits e (elems[i]'(by omega)).1 := fun n hn => hfit n (by
        rw [hx]
        simp only [DataW.weights, ht, List.mem_cons, List.mem_append]
        exact .inr (.inl (weights_mem_all (List.mem_map_of_mem (List.getElem_mem _)) n hn)))
      obtain ⟨v, hK, hG⟩ := hd m (by omega) c _ htr hfe
      obtain ⟨_, hcl, hcs⟩ := World.cells?_some hcell
      refine ⟨v, ⟨c, d.K_len hK, hK, fun j u hu => ?_⟩, hG⟩
      have hj : j < d.sz := by have := (List.getElem?_eq_some_iff.1 hu).1; rw [d.K_len hK] at this; exact this
      have hcj := hcs j (by rw [hc]; exact hj)
      rw [hc] at hcj
      rw [← addr_add_add, hcj]
      exact hu
    obtain ⟨l, hll, hq⟩ := list_of _ len hq
    refine ⟨some a, len, cap, l, rfl, hl, hll, ⟨hll, by unfold maxLen at hm; omega, fun _ => ⟨a, rfl, fun j p hp => (hq j p hp).1⟩⟩, fun y hy => ?_, ?_⟩
    rotate_left
    · have z := hfit ((elems.length + rest.length) * Try.prog.bytesOf e) (by rw [hx]; simp [DataW.weights, ht])
      rw [hB, hlen] at z
      exact Nat.le_trans (Nat.mul_le_mul_right _ (by omega)) z
    obtain ⟨i, hi⟩ := List.getElem?_of_mem hy
    exact (hq i y hi).2
theorem rdr_int {k : IntKind} {t : TypeId} (ht : Try.prog.underlying t = some (.int k)) {n : Nat} {cs : List Value} {x} (h : DataW.trod enc Try.prog w base spare held n t cs = some x) : ∃ v, cs = [.int k v] ∧ (Lit.int k v).wf = true := by
  obtain ⟨v, e, _, hw⟩ := DataW.trod_int ht h
  exact ⟨v, e, hw⟩
theorem cells111 : Try.prog.cellsOf 111 = 5 := by kernel_rfl
theorem cells79 : Try.prog.cellsOf 79 = 4 := by kernel_rfl
theorem cells3 : Try.prog.cellsOf 3 = 1 := by kernel_rfl
theorem bytes111 : Try.prog.bytesOf 111 = 40 := by kernel_rfl
theorem cells77 : Try.prog.cellsOf 77 = 1 := by kernel_rfl
theorem field_of {t : TypeId} {fs : Array Field} {n : Nat} {cs : List Value} {x} (ht : Try.prog.underlying t = some (.struct fs)) (h : DataW.trod enc Try.prog w base spare held n t cs = some x) (hfit : Fits t x.1) :
    cs.length = Try.prog.cellsOf t ∧ ∃ m, m < n ∧ ∀ (i : Nat) (t o : Nat), (fs[i]?).map (fun f => (f.type, f.offset)) = some (t, o) → ∃ y, DataW.trod enc Try.prog w base spare held m t ((cs.drop o).take (Try.prog.cellsOf t)) = some y ∧ Fits t y.1 := by
  obtain ⟨xs, m, rfl, hx, hl, hxs, hf⟩ := DataW.trod_struct ht h
  refine ⟨hl, m, by omega, fun i t o hi => ?_⟩
  obtain ⟨f, hi2, hh⟩ := Option.map_eq_some_iff.1 hi
  simp only [Prod.mk.injEq] at hh
  obtain ⟨rfl, rfl⟩ := hh
  have hlt : i < xs.length := by rw [hxs]; exact (Array.getElem?_eq_some_iff.1 hi2).1
  refine ⟨xs[i], by rw [hf i f hi2, List.getElem?_eq_getElem hlt], fun k hk => hfit k ?_⟩
  rw [hx]
  simp only [DataW.weights, ht]
  refine DataW.weights_mem_each (j := i) (t := f.type) (d := xs[i].1) ?_ ?_ k hk
  · rw [List.getElem?_map, Array.getElem?_toList, hi2]; rfl
  · rw [List.getElem?_map, List.getElem?_eq_getElem hlt]; rfl
theorem rdr111 (n : Nat) : Rdr H enc w base spare held k111 111 good111 n := by
  intro cs x h hfit
  obtain ⟨hl, m, hm, hf⟩ := field_of Try.underlying111 h hfit
  rw [cells111] at hl
  obtain ⟨c0, c1, c2, c3, c4, rfl⟩ := list5 cs hl
  obtain ⟨y0, h0, f0⟩ := hf 0 3 0 rfl
  obtain ⟨y1, h1, f1⟩ := hf 1 3 1 rfl
  obtain ⟨y2, h2, f2⟩ := hf 2 3 2 rfl
  obtain ⟨y3, h3, f3⟩ := hf 3 3 3 rfl
  obtain ⟨y4, h4, f4⟩ := hf 4 3 4 rfl
  simp only [cells3] at h0 h1 h2 h3 h4
  obtain ⟨v0, e0, w0⟩ := rdr_int Try.underlying3 h0
  obtain ⟨v1, e1, w1⟩ := rdr_int Try.underlying3 h1
  obtain ⟨v2, e2, w2⟩ := rdr_int Try.underlying3 h2
  obtain ⟨v3, e3, w3⟩ := rdr_int Try.underlying3 h3
  obtain ⟨v4, e4, w4⟩ := rdr_int Try.underlying3 h4
  simp at e0 e1 e2 e3 e4
  subst e0 e1 e2 e3 e4
  exact ⟨⟨v0, v1, v2, v3, v4⟩, k111_mk w _, in64_of w0, in64_of w1, in64_of w2, in64_of w3, in64_of w4⟩
theorem rdr79 (n : Nat) : Rdr H enc w base spare held k79 79 good79 n := by
  intro cs x h hfit
  obtain ⟨hl, m, hm, hf⟩ := field_of Try.underlying79 h hfit
  rw [cells79] at hl
  obtain ⟨c0, c1, c2, c3, rfl⟩ := list4 cs hl
  obtain ⟨y0, h0, f0⟩ := hf 0 77 0 rfl
  obtain ⟨y1, h1, f1⟩ := hf 1 3 1 rfl
  obtain ⟨y2, h2, f2⟩ := hf 2 3 2 rfl
  obtain ⟨y3, h3, f3⟩ := hf 3 3 3 rfl
  simp only [cells3, cells77] at h0 h1 h2 h3
  obtain ⟨A, len, cap, l, e0, hc, rfl, hC, hG, hsz⟩ := rdr_row (d := k111) (G := good111) Try.underlying77 cells111 (fun m _ => rdr111 m) bytes111 h0 f0
  obtain ⟨v1, e1, w1⟩ := rdr_int Try.underlying3 h1
  obtain ⟨v2, e2, w2⟩ := rdr_int Try.underlying3 h2
  obtain ⟨v3, e3, w3⟩ := rdr_int Try.underlying3 h3
  simp at e0 e1 e2 e3
  subst e0 e1 e2 e3
  exact ⟨⟨l, v1, v2, v3⟩, k79_mk w ⟨l, v1, v2, v3⟩ hc hC, hG, hsz, in64_of w1, in64_of w2, in64_of w3⟩
theorem open_row {α : Type} {d : Kd α} {t e : TypeId} {G : α → Prop} (ht : Try.prog.underlying t = some (.slice e)) (hc : Try.prog.cellsOf e = d.sz) (hd : ∀ m, Rdr H enc w base spare held d e G m) {B : Nat} (hB : Try.prog.bytesOf e = B)
    {ts : List TypeId} {ds : List (DataW H)} {j : Nat} {a : Option Addr} {len cap : Nat} {x : DataW H} {ps : List MemPlace} (hsz : (DataW.weightsEach Try.prog ts ds).all (· ≤ reachBytes) = true) (hj : ts[j]? = some t) (hx : ds[j]? = some x)
    (h : DataW.Trod enc Try.prog w base spare held t (.slice a len cap) x ps) : ∃ l, List.length l = len ∧ len ≤ cap ∧ d.C w a len l ∧ (∀ y ∈ l, G y) ∧ l.length * B ≤ 140737488351232 := by
  obtain ⟨fuel, hf⟩ := h
  have hfit : Fits t x := fun n hn => by
    have := List.all_eq_true.1 hsz n (DataW.weights_mem_each hj hx n hn)
    simpa using this
  obtain ⟨A, len', cap', l, hcs, h1, h2, h3, h4, h5⟩ := rdr_row ht hc (fun m _ => hd m) hB hf hfit
  simp [Value.cells] at hcs
  obtain ⟨rfl, rfl, rfl⟩ := hcs
  exact ⟨l, h2, h1, h3, h4, by rw [h2]; exact h5⟩
theorem rdrInt (n : Nat) : Rdr H enc w base spare held (Kd.int .i64) 3 in64 n := by
  intro cs x h _
  obtain ⟨v, rfl, hw⟩ := rdr_int Try.underlying3 h
  exact ⟨v, rfl, in64_of hw⟩
end
end Go.Proofs.Ytaicamjpcnhjcaa.PA
namespace Go.Proofs.Ytaicamjpcnhjcaa.PA
open Go.RowKit Go.Proofs.YtaicamjpcnhjcaaW.PrintWords Go.Proofs.YtaicamjpcnhjcaaW.PrintLast Go.Proofs.YtaicamjpcnhjcaaW.PrintMore
set_option linter.unusedVariables false
set_option linter.unusedSimpArgs false
structure OkB (n m : Int) (b : S79) : Prop where
  steps : ∀ s ∈ b.f0, okStep n s
  len : b.f0.length ≤ 9223372036854775807
  lo : -1 ≤ b.f1
  hi : b.f1 < n
  nxt : b.f2 = -1 ∧ b.f1 < 0 ∨ 0 ≤ b.f2 ∧ b.f2 < m
  els : 0 ≤ b.f1 → 0 ≤ b.f3 ∧ b.f3 < m
def OkP (n : Int) (p : List S79) : Prop := ∀ b ∈ p, OkB n p.length b
theorem blocksErr_all {v n : Int} : ∀ {l : List S79}, blocksErr v n l = 0 → ∀ b ∈ l, blockErr v n b = 0
  | [], _, b, hb => absurd hb (by simp)
  | x :: t, h, b, hb => by
    rw [blocksErr] at h
    by_cases e : blockErr v n x ≠ 0
    · rw [if_pos e] at h; exact absurd h e
    · rw [if_neg e] at h
      rcases List.mem_cons.1 hb with rfl | hb
      · simpa using e
      · exact blocksErr_all h b hb
theorem blockErr_ok {v n : Int} {b : S79} (h : blockErr v n b = 0) (hl : b.f0.length ≤ 9223372036854775807) : OkB v n b := by
  unfold blockErr insB at h
  simp only [Bool.and_eq_false_iff, decide_eq_false_iff_not] at h
  split at h
  · exact absurd h (by assumption)
  · split at h
    · exact absurd h (by decide)
    · split at h
      · exact absurd h (by decide)
      · exact ⟨steps_ok (by simpa using ‹¬ _ ≠ (0 : Int)›), hl, by omega, by omega, by omega, fun _ => ⟨by omega, by omega⟩⟩
theorem okB_err {v n : Int} {b : S79} (h : OkB v n b) : blockErr v n b = 0 := by
  have h1 := steps_err h.steps
  have h2 := h.lo
  have h3 := h.hi
  have h4 := h.nxt
  have h5 := h.els
  unfold blockErr insB
  simp only [Bool.and_eq_false_iff, decide_eq_false_iff_not]
  rw [if_neg (by rw [h1]; simp), if_neg (by omega), if_neg (by omega)]
theorem blocksErr_zero {v n : Int} : ∀ {l : List S79}, (∀ b ∈ l, blockErr v n b = 0) → blocksErr v n l = 0
  | [], _ => rfl
  | x :: t, h => by
    rw [blocksErr, if_neg (by simpa using h x (by simp))]
    exact blocksErr_zero (fun b hb => h b (List.mem_cons_of_mem _ hb))
theorem blockCheck_zero {v : Int} {p : List S79} (h : blockCheck v p = 0) (hg : ∀ b ∈ p, good79 b) : 1 ≤ v ∧ v ≤ 6 ∧ 1 ≤ p.length ∧ p.length ≤ 8 ∧ manyOf p 0 ≤ 20 ∧ OkP v p := by
  unfold blockCheck at h
  split at h
  · exact absurd h (by decide)
  · exact ⟨by omega, by omega, by omega, by omega, by omega, fun b hb => blockErr_ok (blocksErr_all h b hb) (by have := (hg b hb).2.1; omega)⟩
def stepsOf (p : List S79) : Int := (p.map fun b => (b.f0.length : Int)).sum
theorem stepsOf_cons (b : S79) (p : List S79) : stepsOf (b :: p) = b.f0.length + stepsOf p := by simp [stepsOf]
theorem stepsOf_pos : ∀ (p : List S79), 0 ≤ stepsOf p
  | [] => Int.le_refl _
  | b :: p => by rw [stepsOf_cons]; have := stepsOf_pos p; omega
theorem manyOf_eq : ∀ (p : List S79) (m : Int), 0 ≤ m → m + stepsOf p ≤ 9223372036854775807 → manyOf p m = m + stepsOf p
  | [], m, _, _ => by simp [manyOf, stepsOf]
  | b :: p, m, h0, h1 => by
    rw [stepsOf_cons] at h1
    have hp := stepsOf_pos p
    rw [manyOf, wrap_in (by omega) (by omega), manyOf_eq p _ (by omega) (by omega), stepsOf_cons]
    omega
theorem stepsOf_bound {p : List S79} {c : Int} (h : ∀ b ∈ p, (b.f0.length : Int) ≤ c) : stepsOf p ≤ p.length * c := by
  induction p with
  | nil => simp [stepsOf]
  | cons b p ih =>
    have h1 := ih (fun x hx => h x (List.mem_cons_of_mem _ hx))
    have h2 := h b (by simp)
    rw [stepsOf_cons, List.length_cons, Int.natCast_add, Int.add_mul]
    omega
theorem stepsOf_many {p : List S79} (hg : ∀ b ∈ p, good79 b) (hl : p.length ≤ 8) : manyOf p 0 = stepsOf p := by
  have h := stepsOf_bound (p := p) (c := 3518437208781) (fun b hb => by have := (hg b hb).2.1; omega)
  have h2 : (p.length : Int) * 3518437208781 ≤ 8 * 3518437208781 := Int.mul_le_mul_of_nonneg_right (by omega) (by decide)
  rw [manyOf_eq p 0 (by omega) (by omega)]
  omega
theorem stepsOf_at {p : List S79} {b : S79} (hb : b ∈ p) : (b.f0.length : Int) ≤ stepsOf p := by
  induction p with
  | nil => cases hb
  | cons x p ih =>
    rw [stepsOf_cons]
    have := stepsOf_pos p
    rcases List.mem_cons.1 hb with rfl | hb
    · omega
    · have := ih hb; omega
def nextOf (b : S79) (v : List Int) : Int := if b.f1 ≥ 0 then (if rd v b.f1 = 0 then b.f3 else b.f2) else b.f2
def goN (p : List S79) : Nat → Int → List Int → List Int → List Int × List Int × Bool
  | 0, at_, v, was => if at_ = -1 then (v, was, true) else ([], [], false)
  | n + 1, at_, v, was => if at_ = -1 then (v, was, true) else goN p n (nextOf (rd_T79 p at_) (doing (rd_T79 p at_).f0 v)) (doing (rd_T79 p at_).f0 v) (was ++ [at_])
theorem rdT79_mem {p : List S79} {i : Int} (h0 : 0 ≤ i) (h1 : i < p.length) : rd_T79 p i ∈ p := mem_at (d := z79) (by omega)
theorem nextOf_ok {n m : Int} {b : S79} (h : OkB n m b) (v : List Int) : nextOf b v = -1 ∨ 0 ≤ nextOf b v ∧ nextOf b v < m := by
  unfold nextOf
  have h4 := h.nxt
  have h5 := h.els
  split
  · split <;> omega
  · omega
theorem goes_l0_ev {n : Int} {p : List S79} (hp : OkP n p) (hn : n < 17592186044416) : ∀ (m : Nat) (at_ : Int) (v was : List Int), vals n v → (at_ = -1 ∨ 0 ≤ at_ ∧ at_ < p.length) → was.length + m < 17592186044416 →
    Ev (fun k => codemasonref_Goes.l0 k p v ((was.length + m : Nat) : Int) was at_) (goN p m at_ v was) := by
  intro m
  induction m with
  | zero =>
    intro at_ v was hv ha hw
    refine ev_succ ?_
    simp only [codemasonref_Goes.l0, goN]
    by_cases h : at_ = -1
    · simp only [if_pos h]; exact Ev.now _
    · simp only [if_neg h]; exact ev_pos (by simp) (Ev.now _)
  | succ m ih =>
    intro at_ v was hv ha hw
    by_cases h : at_ = -1
    · refine ev_succ ?_
      simp only [codemasonref_Goes.l0, goN, if_pos h]; exact Ev.now _
    · have ha2 : 0 ≤ at_ ∧ at_ < p.length := by omega
      have hb := hp _ (rdT79_mem ha2.1 ha2.2)
      have hi := ih (nextOf (rd_T79 p at_) (doing (rd_T79 p at_).f0 v)) (doing (rd_T79 p at_).f0 v) (was ++ [at_])
      simp only [goN, if_neg h]
      have hv2 := doing_vals hb.steps hv
      have hl := hv2.1
      have e : (was ++ [at_]).length + m = was.length + (m + 1) := by simp; omega
      rw [e] at hi
      have hrest := hi hv2 (nextOf_ok hb _) (by omega)
      refine ev_succ ?_
      simp only [codemasonref_Goes.l0, if_neg h, Option.bind_some]
      clear hi
      generalize rd_T79 p at_ = b at hb hv2 hl hrest ⊢
      have hlo := hb.lo
      have hhi := hb.hi
      refine ev_neg (by omega) (ev_pos (by omega) (ev_pos (by omega) (ev_pos (by omega) (Ev.bind (refDoing_ev hb.len hb.steps hv hn) ?_))))
      by_cases h1 : b.f1 ≥ 0
      · by_cases h2 : rd (doing b.f0 v) b.f1 = 0
        · rw [show nextOf b (doing b.f0 v) = b.f3 by unfold nextOf; rw [if_pos h1, if_pos h2]] at hrest ⊢
          exact ev_pos h1 (ev_pos (by omega) (ev_pos (by omega) (ev_pos h2 hrest)))
        · rw [show nextOf b (doing b.f0 v) = b.f2 by unfold nextOf; rw [if_pos h1, if_neg h2]] at hrest ⊢
          exact ev_pos h1 (ev_pos (by omega) (ev_pos (by omega) (ev_neg h2 hrest)))
      · rw [show nextOf b (doing b.f0 v) = b.f2 by unfold nextOf; rw [if_neg h1]] at hrest ⊢
        exact ev_neg h1 hrest
theorem goes_ev {n : Int} {p : List S79} (hp : OkP n p) (hn : n < 17592186044416) (h1 : 1 ≤ p.length) {v : List Int} (hv : vals n v) (m : Nat) (hm : m < 17592186044416) : Ev (fun k => codemasonref_Goes.f k p v (m : Int)) (goN p m 0 v []) := by
  have h := goes_l0_ev hp hn m 0 v [] hv (.inr ⟨Int.le_refl _, by omega⟩) (by simpa using hm)
  simpa [codemasonref_Goes.f] using h
theorem goN_vals {n : Int} {p : List S79} (hp : OkP n p) : ∀ (m : Nat) (at_ : Int) (v was : List Int), vals n v → (at_ = -1 ∨ 0 ≤ at_ ∧ at_ < p.length) → (goN p m at_ v was).2.2 = true → vals n (goN p m at_ v was).1 := by
  intro m
  induction m with
  | zero =>
    intro at_ v was hv ha h
    rw [goN] at h ⊢
    split
    · exact hv
    · rw [if_neg ‹_›] at h; exact absurd h (by simp)
  | succ m ih =>
    intro at_ v was hv ha h
    rw [goN] at h ⊢
    split
    · exact hv
    · rw [if_neg ‹_›] at h
      have hb := hp _ (rdT79_mem (p := p) (i := at_) (by omega) (by omega))
      exact ih _ _ _ (doing_vals hb.steps hv) (nextOf_ok hb _) h
end Go.Proofs.Ytaicamjpcnhjcaa.PA
