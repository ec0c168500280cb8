/- Texts of one proof, merged: PA2, Pu4, Pu6, Pu8, Pu9, PureShapeBuilds. -/
import Derived.Test.YtaicamjpcnhjcaaMShapeBuilds5
import Derived.ProofKit
import Derived.OpenShut
import Derived.ChangeOld
import Derived.SizedLaws
import Derived.Deep.Slices
import Derived.Lib.SmallJoins
namespace Go.Proofs.Ytaicamjpcnhjcaa.PA
open Go.RowKit Go.Proofs.YtaicamjpcnhjcaaW.PrintWords Go.Proofs.YtaicamjpcnhjcaaW.PrintLast Go.Proofs.YtaicamjpcnhjcaaW.PrintMore
set_option linter.unusedVariables false
set_option linter.unusedSimpArgs false
def in64 (x : Int) : Prop := -9223372036854775808 ≤ x ∧ x ≤ 9223372036854775807
theorem in64_of {x : Int} (h : (Lit.int .i64 x).wf = true) : in64 x := by
  simp [Lit.wf, IntKind.min, IntKind.max, IntKind.bits, IntKind.signed] at h
  unfold in64
  omega
def good111 (s : S111) : Prop := in64 s.f0 ∧ in64 s.f1 ∧ in64 s.f2 ∧ in64 s.f3 ∧ in64 s.f4
def good79 (b : S79) : Prop := (∀ s ∈ b.f0, good111 s) ∧ b.f0.length * 40 ≤ 140737488351232 ∧ in64 b.f1 ∧ in64 b.f2 ∧ in64 b.f3
theorem list4 {α : Type} : ∀ (l : List α), l.length = 4 → ∃ a b c d, l = [a, b, c, d]
  | [a, b, c, d], _ => ⟨a, b, c, d, rfl⟩
theorem list5 {α : Type} : ∀ (l : List α), l.length = 5 → ∃ a b c d e, l = [a, b, c, d, e]
  | [a, b, c, d, e], _ => ⟨a, b, c, d, e, rfl⟩
section
variable {H : Type} {enc : TypeId × Value → H} {w : World} {base : Nat} {spare : Nat → Bool} {held : Bool}
def Fits (t : TypeId) (x : DataW H) : Prop := ∀ n ∈ x.weights Try.prog t, n ≤ reachBytes
def Rdr (H : Type) (enc : TypeId × Value → H) (w : World) (base : Nat) (spare : Nat → Bool) (held : Bool) {α : Type} (d : Kd α) (t : TypeId) (G : α → Prop) (n : Nat) : Prop :=
  ∀ cs x, DataW.trod enc Try.prog w base spare held n t cs = some x → Fits t x.1 → ∃ v, d.K w v cs ∧ G v
theorem weights_mem_all {e : TypeId} : ∀ {ds : List (DataW H)} {d : DataW H}, d ∈ ds → ∀ n ∈ d.weights Try.prog e, n ∈ DataW.weightsAll Try.prog e ds
  | d :: r, d', hd, n, hn => by
    simp only [DataW.weightsAll, List.mem_append]
    rcases List.mem_cons.1 hd with rfl | hd
    · exact .inl hn
    · exact .inr (weights_mem_all hd n hn)
theorem addr_add_add (a : Addr) (i j : Nat) : (a.add i).add j = a.add (i + j) := by
  unfold Addr.add
  by_cases h1 : i = 0 <;> by_cases h2 : j = 0 <;> simp [h1, h2, Nat.add_assoc]
theorem list_of {α : Type} (Q : Nat → α → Prop) : ∀ n, (∀ i, i < n → ∃ v, Q i v) → ∃ l : List α, l.length = n ∧ ∀ i v, l[i]? = some v → Q i v
  | 0, _ => ⟨[], rfl, fun i v h => by simp at h⟩
  | n + 1, h => by
    obtain ⟨l, hl, hq⟩ := list_of Q n (fun i hi => h i (by omega))
    obtain ⟨v, hv⟩ := h n (by omega)
    refine ⟨l ++ [v], by simp [hl], fun i u hu => ?_⟩
    rcases Nat.lt_or_ge i n with hi | hi
    · rw [List.getElem?_append_left (by omega)] at hu
      exact hq i u hu
    · rw [List.getElem?_append_right (by omega), hl] at hu
      have h0 : i - n = 0 := by
        have := (List.getElem?_eq_some_iff.1 hu).1
        simp at this
        omega
      rw [h0] at hu
      obtain rfl : v = u := by simpa using hu
      obtain rfl : i = n := by omega
      exact hv
theorem rdr_row {α : Type} {d : Kd α} {t e : TypeId} {G : α → Prop} {n : Nat} (ht : Try.prog.underlying t = some (.slice e)) (hc : Try.prog.cellsOf e = d.sz) (hd : ∀ m, m < n → Rdr H enc w base spare held d e G m)
    {B : Nat} (hB : Try.prog.bytesOf e = B) {cs : List Value} {x} (h : DataW.trod enc Try.prog w base spare held n t cs = some x) (hfit : Fits t x.1) :
    ∃ A len cap l, cs = [.slice A len cap] ∧ len ≤ cap ∧ List.length l = len ∧ d.C w A len l ∧ (∀ y ∈ l, G y) ∧ len * B ≤ 140737488351232 := by
  rcases DataW.trod_slice ht h with ⟨rfl, _⟩ | ⟨a, len, cap, elems, rest, m, rfl, rfl, hx, hb, hl, hm, hlen, hel, _⟩
  · exact ⟨none, 0, 0, [], rfl, Nat.le_refl _, rfl, ⟨rfl, by omega, fun h => absurd h (by omega)⟩, fun y hy => absurd hy (by simp), by omega⟩
  · have hq : ∀ i, i < len → ∃ v, (∃ c, c.length = d.sz ∧ d.K w v c ∧ ∀ j u, c[j]? = some u → w.cell? (a.add (i * d.sz + j)) = some u) ∧ G v := by
      intro i hi
      have h1 := hel i hi
      rw [List.getElem?_eq_getElem (by omega), Option.bind_eq_some_iff] at h1
      obtain ⟨c, hcell, htr⟩ := h1
      have hfe : Fits e (elems[i]'(by omega)).1 := fun n hn => hfit n (by
        rw [hx]
        simp only [DataW.weights, ht, List.mem_cons, List.mem_append]
        exact .inr (.inl (weights_mem_all (List.mem_map_of_mem (List.getElem_mem _)) n hn)))
      obtain ⟨v, hK, hG⟩ := hd m (by omega) c _ htr hfe
      obtain ⟨_, hcl, hcs⟩ := World.cells?_some hcell
      refine ⟨v, ⟨c, d.K_len hK, hK, fun j u hu => ?_⟩, hG⟩
      have hj : j < d.sz := by have := (List.getElem?_eq_some_iff.1 hu).1; rw [d.K_len hK] at this; exact this
      have hcj := hcs j (by rw [hc]; exact hj)
      rw [hc] at hcj
      rw [← addr_add_add, hcj]
      exact hu
    obtain ⟨l, hll, hq⟩ := list_of _ len hq
    refine ⟨some a, len, cap, l, rfl, hl, hll, ⟨hll, by unfold maxLen at hm; omega, fun _ => ⟨a, rfl, fun j p hp => (hq j p hp).1⟩⟩, fun y hy => ?_, ?_⟩
    rotate_left
    · have z := hfit ((elems.length + rest.length) * Try.prog.bytesOf e) (by rw [hx]; simp [DataW.weights, ht])
      rw [hB, hlen] at z
      exact Nat.le_trans (Nat.mul_le_mul_right _ (by omega)) z
    obtain ⟨i, hi⟩ := List.getElem?_of_mem hy
    exact (hq i y hi).2
theorem rdr_int {k : IntKind} {t : TypeId} (ht : Try.prog.underlying t = some (.int k)) {n : Nat} {cs : List Value} {x} (h : DataW.trod enc Try.prog w base spare held n t cs = some x) : ∃ v, cs = [.int k v] ∧ (Lit.int k v).wf = true := by
  obtain ⟨v, e, _, hw⟩ := DataW.trod_int ht h
  exact ⟨v, e, hw⟩
theorem cells111 : Try.prog.cellsOf 111 = 5 := by kernel_rfl
theorem cells79 : Try.prog.cellsOf 79 = 4 := by kernel_rfl
theorem cells3 : Try.prog.cellsOf 3 = 1 := by kernel_rfl
theorem bytes111 : Try.prog.bytesOf 111 = 40 := by kernel_rfl
theorem cells77 : Try.prog.cellsOf 77 = 1 := by kernel_rfl
theorem field_of {t : TypeId} {fs : Array Field} {n : Nat} {cs : List Value} {x} (ht : Try.prog.underlying t = some (.struct fs)) (h : DataW.trod enc Try.prog w base spare held n t cs = some x) (hfit : Fits t x.1) :
    cs.length = Try.prog.cellsOf t ∧ ∃ m, m < n ∧ ∀ (i : Nat) (t o : Nat), (fs[i]?).map (fun f => (f.type, f.offset)) = some (t, o) → ∃ y, DataW.trod enc Try.prog w base spare held m t ((cs.drop o).take (Try.prog.cellsOf t)) = some y ∧ Fits t y.1 := by
  obtain ⟨xs, m, rfl, hx, hl, hxs, hf⟩ := DataW.trod_struct ht h
  refine ⟨hl, m, by omega, fun i t o hi => ?_⟩
  obtain ⟨f, hi2, hh⟩ := Option.map_eq_some_iff.1 hi
  simp only [Prod.mk.injEq] at hh
  obtain ⟨rfl, rfl⟩ := hh
  have hlt : i < xs.length := by rw [hxs]; exact (Array.getElem?_eq_some_iff.1 hi2).1
  refine ⟨xs[i], by rw [hf i f hi2, List.getElem?_eq_getElem hlt], fun k hk => hfit k ?_⟩
  rw [hx]
  simp only [DataW.weights, ht]
  refine DataW.weights_mem_each (j := i) (t := f.type) (d := xs[i].1) ?_ ?_ k hk
  · rw [List.getElem?_map, Array.getElem?_toList, hi2]; rfl
  · rw [List.getElem?_map, List.getElem?_eq_getElem hlt]; rfl
theorem rdr111 (n : Nat) : Rdr H enc w base spare held k111 111 good111 n := by
  intro cs x h hfit
  obtain ⟨hl, m, hm, hf⟩ := field_of Try.underlying111 h hfit
  rw [cells111] at hl
  obtain ⟨c0, c1, c2, c3, c4, rfl⟩ := list5 cs hl
  obtain ⟨y0, h0, f0⟩ := hf 0 3 0 rfl
  obtain ⟨y1, h1, f1⟩ := hf 1 3 1 rfl
  obtain ⟨y2, h2, f2⟩ := hf 2 3 2 rfl
  obtain ⟨y3, h3, f3⟩ := hf 3 3 3 rfl
  obtain ⟨y4, h4, f4⟩ := hf 4 3 4 rfl
  simp only [cells3] at h0 h1 h2 h3 h4
  obtain ⟨v0, e0, w0⟩ := rdr_int Try.underlying3 h0
  obtain ⟨v1, e1, w1⟩ := rdr_int Try.underlying3 h1
  obtain ⟨v2, e2, w2⟩ := rdr_int Try.underlying3 h2
  obtain ⟨v3, e3, w3⟩ := rdr_int Try.underlying3 h3
  obtain ⟨v4, e4, w4⟩ := rdr_int Try.underlying3 h4
  simp at e0 e1 e2 e3 e4
  subst e0 e1 e2 e3 e4
  exact ⟨⟨v0, v1, v2, v3, v4⟩, k111_mk w _, in64_of w0, in64_of w1, in64_of w2, in64_of w3, in64_of w4⟩
theorem rdr79 (n : Nat) : Rdr H enc w base spare held k79 79 good79 n := by
  intro cs x h hfit
  obtain ⟨hl, m, hm, hf⟩ := field_of Try.underlying79 h hfit
  rw [cells79] at hl
  obtain ⟨c0, c1, c2, c3, rfl⟩ := list4 cs hl
  obtain ⟨y0, h0, f0⟩ := hf 0 77 0 rfl
  obtain ⟨y1, h1, f1⟩ := hf 1 3 1 rfl
  obtain ⟨y2, h2, f2⟩ := hf 2 3 2 rfl
  obtain ⟨y3, h3, f3⟩ := hf 3 3 3 rfl
  simp only [cells3, cells77] at h0 h1 h2 h3
  obtain ⟨A, len, cap, l, e0, hc, rfl, hC, hG, hsz⟩ := rdr_row (d := k111) (G := good111) Try.underlying77 cells111 (fun m _ => rdr111 m) bytes111 h0 f0
  obtain ⟨v1, e1, w1⟩ := rdr_int Try.underlying3 h1
  obtain ⟨v2, e2, w2⟩ := rdr_int Try.underlying3 h2
  obtain ⟨v3, e3, w3⟩ := rdr_int Try.underlying3 h3
  simp at e0 e1 e2 e3
  subst e0 e1 e2 e3
  exact ⟨⟨l, v1, v2, v3⟩, k79_mk w ⟨l, v1, v2, v3⟩ hc hC, hG, hsz, in64_of w1, in64_of w2, in64_of w3⟩
theorem open_row {α : Type} {d : Kd α} {t e : TypeId} {G : α → Prop} (ht : Try.prog.underlying t = some (.slice e)) (hc : Try.prog.cellsOf e = d.sz) (hd : ∀ m, Rdr H enc w base spare held d e G m) {B : Nat} (hB : Try.prog.bytesOf e = B)
    {ts : List TypeId} {ds : List (DataW H)} {j : Nat} {a : Option Addr} {len cap : Nat} {x : DataW H} {ps : List MemPlace} (hsz : (DataW.weightsEach Try.prog ts ds).all (· ≤ reachBytes) = true) (hj : ts[j]? = some t) (hx : ds[j]? = some x)
    (h : DataW.Trod enc Try.prog w base spare held t (.slice a len cap) x ps) : ∃ l, List.length l = len ∧ len ≤ cap ∧ d.C w a len l ∧ (∀ y ∈ l, G y) ∧ l.length * B ≤ 140737488351232 := by
  obtain ⟨fuel, hf⟩ := h
  have hfit : Fits t x := fun n hn => by
    have := List.all_eq_true.1 hsz n (DataW.weights_mem_each hj hx n hn)
    simpa using this
  obtain ⟨A, len', cap', l, hcs, h1, h2, h3, h4, h5⟩ := rdr_row ht hc (fun m _ => hd m) hB hf hfit
  simp [Value.cells] at hcs
  obtain ⟨rfl, rfl, rfl⟩ := hcs
  exact ⟨l, h2, h1, h3, h4, by rw [h2]; exact h5⟩
theorem rdrInt (n : Nat) : Rdr H enc w base spare held (Kd.int .i64) 3 in64 n := by
  intro cs x h _
  obtain ⟨v, rfl, hw⟩ := rdr_int Try.underlying3 h
  exact ⟨v, rfl, in64_of hw⟩
end
end Go.Proofs.Ytaicamjpcnhjcaa.PA
namespace Go.Proofs.Ytaicamjpcnhjcaa.PA
open Go.RowKit Go.Proofs.YtaicamjpcnhjcaaW.PrintWords Go.Proofs.YtaicamjpcnhjcaaW.PrintLast Go.Proofs.YtaicamjpcnhjcaaW.PrintMore
set_option linter.unusedVariables false
set_option linter.unusedSimpArgs false
def szPart (go : List S127 → Int × Int × Int) (p : List S127) (a : Int × Int × Int) : Int × Int × Int :=
  if p = [] then a else (a.1 + (go p).1, a.2.1 + (go p).2.1, mx a.2.2 (go p).2.2)
def szLoop (go : List S127 → Int × Int × Int) : List S127 → Int × Int × Int → Int × Int × Int
  | [], a => a
  | x :: t, a => szLoop go t (szPart go x.f4 (szPart go x.f3 (a.1, a.2.1 + x.f2.length, a.2.2)))
def sz : Nat → List S127 → Int × Int × Int
  | 0, l => (l.length, 0, 6)
  | j + 1, l => if l.length > 8 then (l.length, 0, 5 - j) else szLoop (sz j) l (l.length, 0, 5 - j)
theorem own_zero {v : Int} {x : S127} : kindOwn v x = 0 ↔ 1 ≤ x.f0 ∧ x.f0 ≤ 3 ∧ (x.f0 = 1 → stepsErr v x.f2 = 0) ∧ (x.f0 ≠ 1 → 0 ≤ x.f1 ∧ x.f1 < v) := by
  unfold kindOwn
  grind
end Go.Proofs.Ytaicamjpcnhjcaa.PA
namespace Go.Proofs.Ytaicamjpcnhjcaa.PA
open Go.RowKit Go.Proofs.YtaicamjpcnhjcaaW.PrintWords Go.Proofs.YtaicamjpcnhjcaaW.PrintLast Go.Proofs.YtaicamjpcnhjcaaW.PrintMore
set_option linter.unusedVariables false
set_option linter.unusedSimpArgs false
inductive Sh : List S127 → List Int → Int → List Int → Int → Prop
  | nil (v : List Int) (t : Int) : Sh [] v t v t
  | code {x : S127} {l : List S127} {v v' : List Int} {t t' : Int} : x.f0 = 1 → Sh l (doing x.f2 v) t v' t' → Sh (x :: l) v t v' t'
  | both {x : S127} {l : List S127} {v v1 v' : List Int} {t t1 t' : Int} : x.f0 = 2 → Sh (if rd v x.f1 = 0 then x.f4 else x.f3) v t v1 t1 → 0 ≤ t1 → Sh l v1 t1 v' t' → Sh (x :: l) v t v' t'
  | bothOut {x : S127} {l : List S127} {v v1 : List Int} {t t1 : Int} : x.f0 = 2 → Sh (if rd v x.f1 = 0 then x.f4 else x.f3) v t v1 t1 → t1 < 0 → Sh (x :: l) v t v1 t1
  | whileEnd {x : S127} {l : List S127} {v v' : List Int} {t t' : Int} : x.f0 = 3 → rd v x.f1 = 0 → Sh l v t v' t' → Sh (x :: l) v t v' t'
  | whileOut {x : S127} {l : List S127} {v : List Int} {t : Int} : x.f0 = 3 → rd v x.f1 ≠ 0 → t - 1 < 0 → Sh (x :: l) v t v (t - 1)
  | whileBodyOut {x : S127} {l : List S127} {v v1 : List Int} {t t1 : Int} : x.f0 = 3 → rd v x.f1 ≠ 0 → 0 ≤ t - 1 → Sh x.f3 v (t - 1) v1 t1 → t1 < 0 → Sh (x :: l) v t v1 t1
  | whileGo {x : S127} {l : List S127} {v v1 v' : List Int} {t t1 t' : Int} : x.f0 = 3 → rd v x.f1 ≠ 0 → 0 ≤ t - 1 → Sh x.f3 v (t - 1) v1 t1 → 0 ≤ t1 → Sh (x :: l) v1 t1 v' t' → Sh (x :: l) v t v' t'
inductive OkL (n : Int) : List S127 → Prop
  | mk {l : List S127} : l.length ≤ 9223372036854775807 → (∀ x ∈ l, 1 ≤ x.f0 ∧ x.f0 ≤ 3 ∧ (x.f0 = 1 → (∀ s ∈ x.f2, okStep n s) ∧ x.f2.length ≤ 9223372036854775807) ∧ (x.f0 ≠ 1 → 0 ≤ x.f1 ∧ x.f1 < n)) → (∀ x ∈ l, OkL n x.f3) → (∀ x ∈ l, OkL n x.f4) → OkL n l
theorem OkL.tail {n : Int} {x : S127} {l : List S127} (h : OkL n (x :: l)) : OkL n l := by
  cases h with
  | mk h1 h2 h3 h4 => exact .mk (by simp at h1; omega) (fun y hy => h2 y (List.mem_cons_of_mem _ hy)) (fun y hy => h3 y (List.mem_cons_of_mem _ hy)) (fun y hy => h4 y (List.mem_cons_of_mem _ hy))
theorem OkL.head {n : Int} {x : S127} {l : List S127} (h : OkL n (x :: l)) : (1 ≤ x.f0 ∧ x.f0 ≤ 3 ∧ (x.f0 = 1 → (∀ s ∈ x.f2, okStep n s) ∧ x.f2.length ≤ 9223372036854775807) ∧ (x.f0 ≠ 1 → 0 ≤ x.f1 ∧ x.f1 < n)) ∧ OkL n x.f3 ∧ OkL n x.f4 := by
  cases h with
  | mk h1 h2 h3 h4 => exact ⟨h2 x (by simp), h3 x (by simp), h4 x (by simp)⟩
theorem OkL.len {n : Int} {l : List S127} (h : OkL n l) : l.length ≤ 9223372036854775807 := by
  cases h with
  | mk h1 h2 h3 h4 => exact h1
theorem OkL.arm {n : Int} {x : S127} {l : List S127} (h : OkL n (x :: l)) (c : Prop) [Decidable c] : OkL n (if c then x.f4 else x.f3) := by
  split
  · exact h.head.2.2
  · exact h.head.2.1
theorem Sh.keeps {n : Int} {l : List S127} {v v' : List Int} {t t' : Int} (h : Sh l v t v' t') : OkL n l → vals n v → vals n v' := by
  induction h with
  | nil v t => exact fun _ h => h
  | code e _ ih => exact fun ho hv => ih ho.tail (doing_vals (ho.head.1.2.2.1 e).1 hv)
  | both e _ _ _ ih1 ih2 => exact fun ho hv => ih2 ho.tail (ih1 (ho.arm _) hv)
  | bothOut e _ _ ih1 => exact fun ho hv => ih1 (ho.arm _) hv
  | whileEnd e _ _ ih => exact fun ho hv => ih ho.tail hv
  | whileOut e _ _ => exact fun ho hv => hv
  | whileBodyOut e _ _ _ _ ih => exact fun ho hv => ih ho.head.2.1 hv
  | whileGo e _ _ _ _ _ ih1 ih2 => exact fun ho hv => ih2 ho (ih1 ho.head.2.1 hv)
theorem Sh.less {l : List S127} {v v' : List Int} {t t' : Int} (h : Sh l v t v' t') : t' ≤ t := by
  induction h with
  | nil v t => omega
  | code _ _ ih => exact ih
  | both _ _ _ _ ih1 ih2 => omega
  | bothOut _ _ _ ih1 => omega
  | whileEnd _ _ _ ih => exact ih
  | whileOut _ _ _ => omega
  | whileBodyOut _ _ _ _ _ ih => omega
  | whileGo _ _ _ _ _ _ ih1 ih2 => omega
theorem Sh.append {l m : List S127} {v v1 v' : List Int} {t t1 t' : Int} (h : Sh l v t v1 t1) : 0 ≤ t1 → Sh m v1 t1 v' t' → Sh (l ++ m) v t v' t' := by
  induction h with
  | nil v t => exact fun _ h => h
  | code e _ ih => exact fun h0 hm => .code e (ih h0 hm)
  | both e h1 h2 _ _ ih2 => exact fun h0 hm => .both e h1 h2 (ih2 h0 hm)
  | bothOut e _ h2 _ => exact fun h0 _ => absurd h0 (by omega)
  | whileEnd e h1 _ ih => exact fun h0 hm => .whileEnd e h1 (ih h0 hm)
  | whileOut e _ h1 => exact fun h0 _ => absurd h0 (by omega)
  | whileBodyOut e _ _ _ h1 _ => exact fun h0 _ => absurd h0 (by omega)
  | whileGo e h1 h2 h3 h4 _ _ ih2 => exact fun h0 hm => .whileGo e h1 h2 h3 h4 (ih2 h0 hm)
theorem ev_shift {α : Type} {g : Nat → Option α} {r : α} (h : Ev g r) : Ev (fun k => g (k + 1)) r := by
  obtain ⟨K, h⟩ := h
  exact ⟨K, fun k hk => h (k + 1) (by omega)⟩
theorem shaped_ev {n : Int} (hn : n < 17592186044416) {l : List S127} {v v' : List Int} {t t' : Int} (h : Sh l v t v' t') : ∀ (L : List S127) (i : Nat), OkL n L → i ≤ L.length → L.drop i = l → vals n v → 0 ≤ t → t ≤ 1000000 → Ev (fun k => codemasonref_Shaped.l0 k v t L L.length i) (v', t') := by
  have start : ∀ {l : List S127} {v v' : List Int} {t t' : Int}, (∀ (L : List S127) (i : Nat), OkL n L → i ≤ L.length → L.drop i = l → vals n v → 0 ≤ t → t ≤ 1000000 → Ev (fun k => codemasonref_Shaped.l0 k v t L L.length i) (v', t')) → OkL n l → vals n v → 0 ≤ t → t ≤ 1000000 → Ev (fun k => codemasonref_Shaped.f k l v t) (v', t') := by
    intro l v v' t t' h ho hv h0 h1
    refine ev_succ ?_
    simp only [codemasonref_Shaped.f]
    exact h l 0 ho (by omega) rfl hv h0 h1
  have at_ : ∀ {L : List S127} {i : Nat} {x : S127} {l : List S127}, i ≤ L.length → L.drop i = x :: l → i < L.length ∧ rd_T127 L i = x ∧ L.drop (i + 1) = l := by
    intro L i x l hi hd
    have hlt : i < L.length := by
      rcases Nat.lt_or_ge i L.length with h | h
      · exact h
      · rw [List.drop_of_length_le h] at hd; cases hd
    rw [drop_at z127 hlt] at hd
    injection hd with h1 h2
    exact ⟨hlt, h1, h2⟩
  have okd : ∀ {L : List S127} {i : Nat} {l : List S127}, OkL n L → L.drop i = l → OkL n l := by
    intro L i l ho hd
    subst hd
    cases ho with
    | mk h1 h2 h3 h4 => exact .mk (by rw [List.length_drop]; omega) (fun y hy => h2 y (List.mem_of_mem_drop hy)) (fun y hy => h3 y (List.mem_of_mem_drop hy)) (fun y hy => h4 y (List.mem_of_mem_drop hy))
  induction h with
  | nil v t =>
    intro L i ho hi hd hv h0 h1
    have : L.length ≤ i := by
      rcases Nat.lt_or_ge i L.length with h | h
      · rw [drop_at z127 h] at hd; cases hd
      · exact h
    refine ev_succ ?_
    simp only [codemasonref_Shaped.l0]
    exact ev_neg (by omega) (Ev.now _)
  | @code x l v v' t t' e _ ih =>
    intro L i ho hi hd hv h0 h1
    obtain ⟨hlt, hx, hd2⟩ := at_ hi hd
    have hok := okd ho hd
    obtain ⟨hc1, hc2⟩ := hok.head.1.2.2.1 e
    refine ev_succ ?_
    simp only [codemasonref_Shaped.l0, wrap_nat hlt ho.len, hx]
    exact ev_pos (by omega) (ev_pos (by omega) (ev_pos (by omega) (ev_pos e (Ev.bind (refDoing_ev hc2 hc1 hv hn) (ev_neg (by omega) (ih L (i + 1) ho hlt hd2 (doing_vals hc1 hv) h0 h1))))))
  | @both x l v v1 v' t t1 t' e hs1 ht1 _ ih1 ih2 =>
    intro L i ho hi hd hv h0 h1
    obtain ⟨hlt, hx, hd2⟩ := at_ hi hd
    have hok := okd ho hd
    have hr := hok.head.1.2.2.2 (by omega)
    have hl := hv.1
    have hv1 := hs1.keeps (hok.arm _) hv
    have hle := hs1.less
    have hb := start ih1 (hok.arm _) hv h0 h1
    have hrest := ih2 L (i + 1) ho hlt hd2 hv1 ht1 (by omega)
    refine ev_succ ?_
    simp only [codemasonref_Shaped.l0, wrap_nat hlt ho.len, hx]
    refine ev_pos (by omega) (ev_pos (by omega) (ev_pos (by omega) (ev_neg (by omega) (ev_pos e (ev_pos (by omega) (ev_pos (by omega) (ev_ite (fun hz => ?_) (fun hz => ?_))))))))
    · simp only [if_pos hz] at hb
      exact Ev.bind hb (ev_neg (by simp only; omega) hrest)
    · simp only [if_neg hz] at hb
      exact Ev.bind hb (ev_neg (by simp only; omega) hrest)
  | @bothOut x l v v1 t t1 e hs1 ht1 ih1 =>
    intro L i ho hi hd hv h0 h1
    obtain ⟨hlt, hx, hd2⟩ := at_ hi hd
    have hok := okd ho hd
    have hr := hok.head.1.2.2.2 (by omega)
    have hl := hv.1
    have hb := start ih1 (hok.arm _) hv h0 h1
    refine ev_succ ?_
    simp only [codemasonref_Shaped.l0, wrap_nat hlt ho.len, hx]
    refine ev_pos (by omega) (ev_pos (by omega) (ev_pos (by omega) (ev_neg (by omega) (ev_pos e (ev_pos (by omega) (ev_pos (by omega) (ev_ite (fun hz => ?_) (fun hz => ?_))))))))
    · simp only [if_pos hz] at hb
      exact Ev.bind hb (ev_pos ht1 (Ev.now _))
    · simp only [if_neg hz] at hb
      exact Ev.bind hb (ev_pos ht1 (Ev.now _))
  | @whileEnd x l v v' t t' e hz _ ih =>
    intro L i ho hi hd hv h0 h1
    obtain ⟨hlt, hx, hd2⟩ := at_ hi hd
    have hok := okd ho hd
    have hr := hok.head.1.2.2.2 (by omega)
    have hl := hv.1
    have hrest := ih L (i + 1) ho hlt hd2 hv h0 h1
    refine ev_succ ?_
    simp only [codemasonref_Shaped.l0, hx]
    refine ev_pos (by omega) (ev_pos (by omega) (ev_pos (by omega) (ev_neg (by omega) (ev_neg (by omega) (ev_pos e ?_)))))
    refine ev_succ ?_
    simp only [codemasonref_Shaped.l1]
    refine ev_pos h0 (ev_pos (by omega) (ev_pos (by omega) ?_))
    refine ev_succ ?_
    simp only [codemasonref_Shaped.j2, wrap_nat hlt ho.len, hz]
    exact ev_neg (by simp) (ev_neg (by omega) hrest)
  | @whileOut x l v t e hz ht =>
    intro L i ho hi hd hv h0 h1
    obtain ⟨hlt, hx, hd2⟩ := at_ hi hd
    have hok := okd ho hd
    have hr := hok.head.1.2.2.2 (by omega)
    have hl := hv.1
    have hzb : (rd v x.f1 != 0) = true := bne_iff_ne.mpr hz
    refine ev_succ ?_
    simp only [codemasonref_Shaped.l0, hx]
    refine ev_pos (by omega) (ev_pos (by omega) (ev_pos (by omega) (ev_neg (by omega) (ev_neg (by omega) (ev_pos e ?_)))))
    refine ev_succ ?_
    simp only [codemasonref_Shaped.l1]
    refine ev_pos h0 (ev_pos (by omega) (ev_pos (by omega) ?_))
    refine ev_succ ?_
    simp only [codemasonref_Shaped.j2, hzb, wrap_in (x := t - 1) (by omega) (by omega)]
    refine ev_pos (by simp) (ev_neg (by omega) ?_)
    refine ev_succ ?_
    simp only [codemasonref_Shaped.l1]
    refine ev_neg (by omega) ?_
    refine ev_succ ?_
    simp only [codemasonref_Shaped.j2]
    exact ev_neg (by simp) (ev_pos ht (Ev.now _))
  | @whileBodyOut x l v v1 t t1 e hz ht hs1 ht1 ih1 =>
    intro L i ho hi hd hv h0 h1
    obtain ⟨hlt, hx, hd2⟩ := at_ hi hd
    have hok := okd ho hd
    have hr := hok.head.1.2.2.2 (by omega)
    have hl := hv.1
    have hzb : (rd v x.f1 != 0) = true := bne_iff_ne.mpr hz
    have hb := start ih1 hok.head.2.1 hv ht (by omega)
    refine ev_succ ?_
    simp only [codemasonref_Shaped.l0, hx]
    refine ev_pos (by omega) (ev_pos (by omega) (ev_pos (by omega) (ev_neg (by omega) (ev_neg (by omega) (ev_pos e ?_)))))
    refine ev_succ ?_
    simp only [codemasonref_Shaped.l1]
    refine ev_pos h0 (ev_pos (by omega) (ev_pos (by omega) ?_))
    refine ev_succ ?_
    simp only [codemasonref_Shaped.j2, hzb, wrap_in (x := t - 1) (by omega) (by omega)]
    refine ev_pos (by simp) (ev_pos (by omega) (Ev.bind hb ?_))
    refine ev_succ ?_
    simp only [codemasonref_Shaped.l1]
    refine ev_neg (by omega) ?_
    refine ev_succ ?_
    simp only [codemasonref_Shaped.j2]
    exact ev_neg (by simp) (ev_pos ht1 (Ev.now _))
  | @whileGo x l v v1 v' t t1 t' e hz ht hs1 ht1 _ ih1 ih2 =>
    intro L i ho hi hd hv h0 h1
    obtain ⟨hlt, hx, hd2⟩ := at_ hi hd
    have hok := okd ho hd
    have hr := hok.head.1.2.2.2 (by omega)
    have hl := hv.1
    have hle := hs1.less
    have hzb : (rd v x.f1 != 0) = true := bne_iff_ne.mpr hz
    have hb := start ih1 hok.head.2.1 hv ht (by omega)
    have hrest := ev_shift (ih2 L i ho hi hd (hs1.keeps hok.head.2.1 hv) ht1 (by omega))
    refine ev_succ ?_
    simp only [codemasonref_Shaped.l0, hx] at hrest ⊢
    refine ev_pos (by omega) (ev_pos (by omega) (ev_pos (by omega) (ev_neg (by omega) (ev_neg (by omega) (ev_pos e ?_)))))
    refine ev_succ ?_
    simp only [codemasonref_Shaped.l1]
    refine ev_pos h0 (ev_pos (by omega) (ev_pos (by omega) ?_))
    refine ev_succ ?_
    simp only [codemasonref_Shaped.j2, hzb, wrap_in (x := t - 1) (by omega) (by omega)]
    refine ev_pos (by simp) (ev_pos (by omega) (Ev.bind hb ?_))
    simpa only [if_pos (show (i : Int) < L.length by omega), if_pos (show (0 : Int) ≤ i by omega), if_neg (show ¬ x.f0 = 1 by omega), if_neg (show ¬ x.f0 = 2 by omega), if_pos e] using hrest
theorem shapedF_ev {n : Int} (hn : n < 17592186044416) {l : List S127} {v v' : List Int} {t t' : Int} (h : Sh l v t v' t') (ho : OkL n l) (hv : vals n v) (h0 : 0 ≤ t) (h1 : t ≤ 1000000) : Ev (fun k => codemasonref_Shaped.f k l v t) (v', t') := by
  refine ev_succ ?_
  simp only [codemasonref_Shaped.f]
  exact shaped_ev hn h l 0 ho (by omega) rfl hv h0 h1
end Go.Proofs.Ytaicamjpcnhjcaa.PA
namespace Go.Proofs.Ytaicamjpcnhjcaa.PA
open Go.RowKit Go.Proofs.YtaicamjpcnhjcaaW.PrintWords Go.Proofs.YtaicamjpcnhjcaaW.PrintLast Go.Proofs.YtaicamjpcnhjcaaW.PrintMore
set_option linter.unusedVariables false
set_option linter.unusedSimpArgs false
structure OkB (n m : Int) (b : S79) : Prop where
  steps : ∀ s ∈ b.f0, okStep n s
  len : b.f0.length ≤ 9223372036854775807
  lo : -1 ≤ b.f1
  hi : b.f1 < n
  nxt : b.f2 = -1 ∧ b.f1 < 0 ∨ 0 ≤ b.f2 ∧ b.f2 < m
  els : 0 ≤ b.f1 → 0 ≤ b.f3 ∧ b.f3 < m
def OkP (n : Int) (p : List S79) : Prop := ∀ b ∈ p, OkB n p.length b
theorem blocksErr_all {v n : Int} : ∀ {l : List S79}, blocksErr v n l = 0 → ∀ b ∈ l, blockErr v n b = 0
  | [], _, b, hb => absurd hb (by simp)
  | x :: t, h, b, hb => by
    rw [blocksErr] at h
    by_cases e : blockErr v n x ≠ 0
    · rw [if_pos e] at h; exact absurd h e
    · rw [if_neg e] at h
      rcases List.mem_cons.1 hb with rfl | hb
      · simpa using e
      · exact blocksErr_all h b hb
theorem blockErr_ok {v n : Int} {b : S79} (h : blockErr v n b = 0) (hl : b.f0.length ≤ 9223372036854775807) : OkB v n b := by
  unfold blockErr insB at h
  simp only [Bool.and_eq_false_iff, decide_eq_false_iff_not] at h
  split at h
  · exact absurd h (by assumption)
  · split at h
    · exact absurd h (by decide)
    · split at h
      · exact absurd h (by decide)
      · exact ⟨steps_ok (by simpa using ‹¬ _ ≠ (0 : Int)›), hl, by omega, by omega, by omega, fun _ => ⟨by omega, by omega⟩⟩
theorem blockCheck_zero {v : Int} {p : List S79} (h : blockCheck v p = 0) (hg : ∀ b ∈ p, good79 b) : 1 ≤ v ∧ v ≤ 6 ∧ 1 ≤ p.length ∧ p.length ≤ 8 ∧ manyOf p 0 ≤ 20 ∧ OkP v p := by
  unfold blockCheck at h
  split at h
  · exact absurd h (by decide)
  · exact ⟨by omega, by omega, by omega, by omega, by omega, fun b hb => blockErr_ok (blocksErr_all h b hb) (by have := (hg b hb).2.1; omega)⟩
def nextOf (b : S79) (v : List Int) : Int := if b.f1 ≥ 0 then (if rd v b.f1 = 0 then b.f3 else b.f2) else b.f2
def goN (p : List S79) : Nat → Int → List Int → List Int → List Int × List Int × Bool
  | 0, at_, v, was => if at_ = -1 then (v, was, true) else ([], [], false)
  | n + 1, at_, v, was => if at_ = -1 then (v, was, true) else goN p n (nextOf (rd_T79 p at_) (doing (rd_T79 p at_).f0 v)) (doing (rd_T79 p at_).f0 v) (was ++ [at_])
theorem rdT79_mem {p : List S79} {i : Int} (h0 : 0 ≤ i) (h1 : i < p.length) : rd_T79 p i ∈ p := mem_at (d := z79) (by omega)
theorem nextOf_ok {n m : Int} {b : S79} (h : OkB n m b) (v : List Int) : nextOf b v = -1 ∨ 0 ≤ nextOf b v ∧ nextOf b v < m := by
  unfold nextOf
  have h4 := h.nxt
  have h5 := h.els
  split
  · split <;> omega
  · omega
theorem goes_l0_ev {n : Int} {p : List S79} (hp : OkP n p) (hn : n < 17592186044416) : ∀ (m : Nat) (at_ : Int) (v was : List Int), vals n v → (at_ = -1 ∨ 0 ≤ at_ ∧ at_ < p.length) → was.length + m < 17592186044416 →
    Ev (fun k => codemasonref_Goes.l0 k p v ((was.length + m : Nat) : Int) was at_) (goN p m at_ v was) := by
  intro m
  induction m with
  | zero =>
    intro at_ v was hv ha hw
    refine ev_succ ?_
    simp only [codemasonref_Goes.l0, goN]
    by_cases h : at_ = -1
    · simp only [if_pos h]; exact Ev.now _
    · simp only [if_neg h]; exact ev_pos (by simp) (Ev.now _)
  | succ m ih =>
    intro at_ v was hv ha hw
    by_cases h : at_ = -1
    · refine ev_succ ?_
      simp only [codemasonref_Goes.l0, goN, if_pos h]; exact Ev.now _
    · have ha2 : 0 ≤ at_ ∧ at_ < p.length := by omega
      have hb := hp _ (rdT79_mem ha2.1 ha2.2)
      have hi := ih (nextOf (rd_T79 p at_) (doing (rd_T79 p at_).f0 v)) (doing (rd_T79 p at_).f0 v) (was ++ [at_])
      simp only [goN, if_neg h]
      have hv2 := doing_vals hb.steps hv
      have hl := hv2.1
      have e : (was ++ [at_]).length + m = was.length + (m + 1) := by simp; omega
      rw [e] at hi
      have hrest := hi hv2 (nextOf_ok hb _) (by omega)
      refine ev_succ ?_
      simp only [codemasonref_Goes.l0, if_neg h, Option.bind_some]
      clear hi
      generalize rd_T79 p at_ = b at hb hv2 hl hrest ⊢
      have hlo := hb.lo
      have hhi := hb.hi
      refine ev_neg (by omega) (ev_pos (by omega) (ev_pos (by omega) (ev_pos (by omega) (Ev.bind (refDoing_ev hb.len hb.steps hv hn) ?_))))
      by_cases h1 : b.f1 ≥ 0
      · by_cases h2 : rd (doing b.f0 v) b.f1 = 0
        · rw [show nextOf b (doing b.f0 v) = b.f3 by unfold nextOf; rw [if_pos h1, if_pos h2]] at hrest ⊢
          exact ev_pos h1 (ev_pos (by omega) (ev_pos (by omega) (ev_pos h2 hrest)))
        · rw [show nextOf b (doing b.f0 v) = b.f2 by unfold nextOf; rw [if_pos h1, if_neg h2]] at hrest ⊢
          exact ev_pos h1 (ev_pos (by omega) (ev_pos (by omega) (ev_neg h2 hrest)))
      · rw [show nextOf b (doing b.f0 v) = b.f2 by unfold nextOf; rw [if_neg h1]] at hrest ⊢
        exact ev_neg h1 hrest
theorem goes_ev {n : Int} {p : List S79} (hp : OkP n p) (hn : n < 17592186044416) (h1 : 1 ≤ p.length) {v : List Int} (hv : vals n v) (m : Nat) (hm : m < 17592186044416) : Ev (fun k => codemasonref_Goes.f k p v (m : Int)) (goN p m 0 v []) := by
  have h := goes_l0_ev hp hn m 0 v [] hv (.inr ⟨Int.le_refl _, by omega⟩) (by simpa using hm)
  simpa [codemasonref_Goes.f] using h
theorem goN_vals {n : Int} {p : List S79} (hp : OkP n p) : ∀ (m : Nat) (at_ : Int) (v was : List Int), vals n v → (at_ = -1 ∨ 0 ≤ at_ ∧ at_ < p.length) → (goN p m at_ v was).2.2 = true → vals n (goN p m at_ v was).1 := by
  intro m
  induction m with
  | zero =>
    intro at_ v was hv ha h
    rw [goN] at h ⊢
    split
    · exact hv
    · rw [if_neg ‹_›] at h; exact absurd h (by simp)
  | succ m ih =>
    intro at_ v was hv ha h
    rw [goN] at h ⊢
    split
    · exact hv
    · rw [if_neg ‹_›] at h
      have hb := hp _ (rdT79_mem (p := p) (i := at_) (by omega) (by omega))
      exact ih _ _ _ (doing_vals hb.steps hv) (nextOf_ok hb _) h
end Go.Proofs.Ytaicamjpcnhjcaa.PA
namespace Go.Proofs.Ytaicamjpcnhjcaa.PA
open Go.RowKit Go.Proofs.YtaicamjpcnhjcaaW.PrintWords Go.Proofs.YtaicamjpcnhjcaaW.PrintLast Go.Proofs.YtaicamjpcnhjcaaW.PrintMore
set_option linter.unusedVariables false
set_option linter.unusedSimpArgs false
theorem okL_nil (n : Int) : OkL n [] := .mk (by simp) (fun x hx => absurd hx (by simp)) (fun x hx => absurd hx (by simp)) (fun x hx => absurd hx (by simp))
theorem okL_cons {n : Int} {x : S127} {l : List S127} (h0 : 1 ≤ x.f0 ∧ x.f0 ≤ 3) (hc : x.f0 = 1 → (∀ s ∈ x.f2, okStep n s) ∧ x.f2.length ≤ 9223372036854775807) (ht : x.f0 ≠ 1 → 0 ≤ x.f1 ∧ x.f1 < n) (h3 : OkL n x.f3) (h4 : OkL n x.f4) (hl : OkL n l) (hlen : l.length < 1000) : OkL n (x :: l) := by
  cases hl with
  | mk a b c d =>
    refine .mk (by simp; omega) (fun y hy => ?_) (fun y hy => ?_) (fun y hy => ?_)
    · rcases List.mem_cons.1 hy with rfl | hy
      · exact ⟨h0.1, h0.2, hc, ht⟩
      · exact b y hy
    · rcases List.mem_cons.1 hy with rfl | hy
      · exact h3
      · exact c y hy
    · rcases List.mem_cons.1 hy with rfl | hy
      · exact h4
      · exact d y hy
theorem kinds0_ev {n : Int} {l : List S127} (h : OkL n l) : Ev (fun k => codemasonref_shapeKinds.f k n l) 0 := by
  induction h with
  | @mk l h1 h2 h3 h4 ih3 ih4 =>
    refine ev_succ ?_
    simp only [codemasonref_shapeKinds.f]
    clear h1
    induction l with
    | nil => simp only [shapesLoop]; exact Ev.now _
    | cons x t iht =>
      have it := iht (fun y hy => h2 y (List.mem_cons_of_mem _ hy)) (fun y hy => h3 y (List.mem_cons_of_mem _ hy)) (fun y hy => h4 y (List.mem_cons_of_mem _ hy)) (fun y hy => ih3 y (List.mem_cons_of_mem _ hy)) (fun y hy => ih4 y (List.mem_cons_of_mem _ hy))
      obtain ⟨k1, k3, kc, kt⟩ := h2 x (by simp)
      have e : kindOwn n x = 0 := own_zero.2 ⟨k1, k3, fun e => steps_err (kc e).1, kt⟩
      simp only [shapesLoop, shapesParts]
      exact ev_pos e (Ev.bind (a := 0) (Ev.bind (ih3 x (by simp)) (ev_pos rfl (Ev.bind (ih4 x (by simp)) (ev_pos rfl (Ev.now _))))) (ev_pos rfl it))
inductive Wh : List S127 → Int → Prop
  | nil : Wh [] 0
  | cons {x : S127} {l : List S127} {a b c : Int} : Wh x.f3 a → Wh x.f4 b → Wh l c → Wh (x :: l) ((if x.f0 = 3 then 1 else 0) + a + b + c)
theorem Wh.pos {l : List S127} {n : Int} (h : Wh l n) : 0 ≤ n := by
  induction h with
  | nil => omega
  | cons _ _ _ ha hb hc => split <;> omega
theorem Wh.append {l m : List S127} {a b : Int} (h : Wh l a) (k : Wh m b) : Wh (l ++ m) (a + b) := by
  induction h with
  | nil => simpa using k
  | @cons x l a b' c h3 h4 _ _ _ ih => have := Wh.cons h3 h4 ih; rw [← Int.add_assoc] at this; exact this
theorem whiles_ev {l : List S127} {n : Int} (h : Wh l n) : n ≤ 1000 → (∀ m, OkL m l → Ev (fun k => codemasonref_Whiles.f k l) n) ∧ ∀ (L : List S127) (i : Nat) (s : Int) (m : Int), OkL m L → i ≤ L.length → L.drop i = l → 0 ≤ s → s + n ≤ 1000 → Ev (fun k => codemasonref_Whiles.l0 k s L L.length i) (s + n) := by
  induction h with
  | nil =>
    intro _
    have key : ∀ (L : List S127) (i : Nat) (s : Int) (m : Int), OkL m L → i ≤ L.length → L.drop i = [] → 0 ≤ s → s + 0 ≤ 1000 → Ev (fun k => codemasonref_Whiles.l0 k s L L.length i) (s + 0) := by
      intro L i s m ho hi hd h0 h1
      have : L.length ≤ i := by simpa using hd
      refine ev_succ ?_
      simp only [codemasonref_Whiles.l0]
      exact ev_neg (by omega) (ev_some (by omega))
    refine ⟨fun m hm => ?_, key⟩
    refine ev_succ ?_
    simp only [codemasonref_Whiles.f]
    exact key [] 0 0 m hm (by simp) rfl (by omega) (by omega)
  | @cons x l a b c h3 h4 hl ih3 ih4 ihl =>
    intro hn
    have pa := h3.pos
    have pb := h4.pos
    have pc := hl.pos
    have key : ∀ (L : List S127) (i : Nat) (s : Int) (m : Int), OkL m L → i ≤ L.length → L.drop i = x :: l → 0 ≤ s → s + ((if x.f0 = 3 then 1 else 0) + a + b + c) ≤ 1000 → Ev (fun k => codemasonref_Whiles.l0 k s L L.length i) (s + ((if x.f0 = 3 then 1 else 0) + a + b + c)) := by
      intro L i s m ho hi hd h0 h1
      have hlt : i < L.length := by
        rcases Nat.lt_or_ge i L.length with h | h
        · exact h
        · rw [List.drop_of_length_le h] at hd; cases hd
      rw [drop_at z127 hlt] at hd
      injection hd with hx hd
      have hlen := ho.len
      have hmem : x ∈ L := by rw [← hx]; exact mem_at hlt
      have ho3 : OkL m x.f3 ∧ OkL m x.f4 := by
        cases ho with
        | mk _ _ c d => exact ⟨c x hmem, d x hmem⟩
      refine ev_succ ?_
      simp only [codemasonref_Whiles.l0, wrap_nat hlt hlen, rdT127_nat, hx]
      refine ev_pos (by omega) (ev_pos (by omega) (ev_pos (by omega) (ev_ite (fun e => ?_) (fun e => ?_))))
      · rw [if_pos e] at h1 ⊢
        refine Ev.bind ((ih3 (by rw [if_pos e] at hn; omega)).1 m ho3.1) (Ev.bind ((ih4 (by rw [if_pos e] at hn; omega)).1 m ho3.2) ?_)
        rw [wrap_in (x := s + 1) (by omega) (by omega), wrap_in (x := s + 1 + a) (by omega) (by omega), wrap_in (x := s + 1 + a + b) (by omega) (by omega)]
        exact ev_eq ((ihl (by rw [if_pos e] at hn; omega)).2 L (i + 1) (s + 1 + a + b) m ho hlt hd (by omega) (by omega)) (by omega)
      · rw [if_neg e] at h1 ⊢
        refine Ev.bind ((ih3 (by rw [if_neg e] at hn; omega)).1 m ho3.1) (Ev.bind ((ih4 (by rw [if_neg e] at hn; omega)).1 m ho3.2) ?_)
        rw [wrap_in (x := s + a) (by omega) (by omega), wrap_in (x := s + a + b) (by omega) (by omega)]
        exact ev_eq ((ihl (by rw [if_neg e] at hn; omega)).2 L (i + 1) (s + a + b) m ho hlt hd (by omega) (by omega)) (by omega)
    refine ⟨fun m hm => ?_, key⟩
    refine ev_succ ?_
    simp only [codemasonref_Whiles.f]
    exact ev_eq (key _ 0 0 m hm (by omega) rfl (by omega) (by omega)) (by omega)
theorem okStep_mk {n : Int} {s : S111} (h1 : 1 ≤ s.f0) (h2 : s.f0 ≤ 6) (h3 : 0 ≤ s.f1 ∧ s.f1 < n) (h4 : s.f0 = 1 → 0 ≤ s.f4 ∧ s.f4 ≤ 255) (h5 : s.f0 = 2 → 0 ≤ s.f4 ∧ s.f4 < n) (h6 : 2 < s.f0 → (0 ≤ s.f2 ∧ s.f2 < n) ∧ 0 ≤ s.f3 ∧ s.f3 < n) : okStep n s := by
  unfold okStep stepE insB
  simp only [Bool.and_eq_false_iff, decide_eq_false_iff_not]
  rw [if_neg (by omega), if_neg (by omega), if_neg (by omega)]
theorem okStep_more {n m : Int} {s : S111} (h : okStep n s) (hm : n ≤ m) : okStep m s := by
  obtain ⟨h1, h2, h3, h4, h5, h6⟩ := okStep_parts h
  exact okStep_mk h1 h2 ⟨h3.1, by omega⟩ h4 (fun e => ⟨(h5 e).1, by have := (h5 e).2; omega⟩) (fun e => ⟨⟨(h6 e).1.1, by have := (h6 e).1.2; omega⟩, (h6 e).2.1, by have := (h6 e).2.2; omega⟩)
theorem okL_num {m v x : Int} (hv : 0 ≤ v ∧ v < m) (hx : 0 ≤ x ∧ x ≤ 255) {l : List S127} (hl : OkL m l) (hlen : l.length < 1000) : OkL m (numS v x :: l) :=
  okL_cons ⟨by show (1 : Int) ≤ 1; decide, by show (1 : Int) ≤ 3; decide⟩ (fun _ => ⟨fun s hs => by
    obtain rfl : s = ⟨1, v, 0, 0, x⟩ := by simpa [numS] using hs
    exact okStep_mk (by simp) (by simp) hv (fun _ => hx) (fun h => by simp at h) (fun h => by simp at h), by simp [numS]⟩) (fun h => absurd rfl h) (okL_nil _) (okL_nil _) hl hlen
theorem okL_own {n m : Int} {b : S79} (hn : 1 ≤ n) (hb : OkB n m b) (hm : m ≤ 8) : OkL (n + 2) (ownS n b) := by
  refine okL_cons ⟨by show (1 : Int) ≤ 1; decide, by show (1 : Int) ≤ 3; decide⟩ (fun _ => ⟨fun s hs => okStep_more (hb.steps s hs) (by omega), hb.len⟩) (fun h => absurd rfl h) (okL_nil _) (okL_nil _) ?_ (by simp)
  have h2 := hb.nxt
  have h3 := hb.els
  have h4 := hb.lo
  have h5 := hb.hi
  show OkL (n + 2) [if b.f1 < 0 then _ else _]
  split
  · exact okL_num ⟨by omega, by omega⟩ ⟨by omega, by omega⟩ (okL_nil _) (by simp)
  · exact okL_cons ⟨by show (1 : Int) ≤ 2; decide, by show (2 : Int) ≤ 3; decide⟩ (fun h => absurd h (by simp)) (fun _ => ⟨by show 0 ≤ b.f1; omega, by show b.f1 < n + 2; omega⟩) (okL_num ⟨by omega, by omega⟩ ⟨by omega, by omega⟩ (okL_nil _) (by simp)) (okL_num ⟨by omega, by omega⟩ ⟨by omega, by omega⟩ (okL_nil _) (by simp)) (okL_nil _) (by simp)
theorem allS_len (n i : Int) (l : List S79) : (allS n i l).length ≤ 2 := by cases l <;> simp [allS]
theorem okL_all {n m : Int} (hn : 1 ≤ n) (hm : m ≤ 8) : ∀ (l : List S79) (i : Int), 0 ≤ i → i + l.length ≤ 8 → (∀ b ∈ l, OkB n m b) → OkL (n + 2) (allS n i l)
  | [], _, _, _, _ => okL_nil _
  | b :: t, i, h0, h1, hb => by
    rw [List.length_cons] at h1
    refine okL_cons ⟨by show (1 : Int) ≤ 1; decide, by show (1 : Int) ≤ 3; decide⟩ (fun _ => ⟨fun s hs => ?_, by simp [isS]⟩) (fun h => absurd rfl h) (okL_nil _) (okL_nil _) ?_ (by simp)
    · have hs : s = ⟨1, n + 1, 0, 0, i + 2⟩ ∨ s = ⟨6, n + 1, n, n + 1, 0⟩ := by simpa [isS] using hs
      rcases hs with rfl | rfl
      · exact okStep_mk (by simp) (by simp) ⟨by simp only; omega, by simp only; omega⟩ (fun _ => ⟨by simp only; omega, by simp only; omega⟩) (fun h => by simp at h) (fun h => by simp at h)
      · exact okStep_mk (by simp) (by simp) ⟨by simp only; omega, by simp only; omega⟩ (fun h => by simp at h) (fun h => by simp at h) (fun _ => ⟨⟨by simp only; omega, by simp only; omega⟩, by simp only; omega, by simp only; omega⟩)
    · exact okL_cons ⟨by show (1 : Int) ≤ 2; decide, by show (2 : Int) ≤ 3; decide⟩ (fun h => absurd h (by simp)) (fun _ => ⟨by show 0 ≤ n + 1; omega, by show n + 1 < n + 2; omega⟩) (okL_own hn (hb b (by simp)) hm) (okL_all hn hm t (i + 1) (by omega) (by omega) (fun x hx => hb x (List.mem_cons_of_mem _ hx))) (okL_nil _) (by simp)
theorem okL_build {n : Int} {p : List S79} (hn : 1 ≤ n) (hn4 : n ≤ 4) (hp : OkP n p) (hl : p.length ≤ 8) : OkL (n + 2) (buildS n p) := by
  refine okL_num ⟨by omega, by omega⟩ ⟨by omega, by omega⟩ (okL_num ⟨by omega, by omega⟩ ⟨by omega, by omega⟩ ?_ (by simp)) (by simp)
  refine okL_cons ⟨by show (1 : Int) ≤ 3; decide, by show (3 : Int) ≤ 3; decide⟩ (fun h => absurd h (by simp)) (fun _ => ⟨by show 0 ≤ n + 1; omega, by show n + 1 < n + 2; omega⟩) ?_ (okL_nil _) (okL_nil _) (by simp)
  have ha := okL_all hn (m := p.length) (by omega) p 0 (by omega) (by omega) hp
  have he : OkL (n + 2) [endS n] := okL_cons ⟨by show (1 : Int) ≤ 1; decide, by show (1 : Int) ≤ 3; decide⟩ (fun _ => ⟨fun s hs => by
    obtain rfl : s = ⟨2, n + 1, 0, 0, n⟩ := by simpa [endS] using hs
    exact okStep_mk (by simp) (by simp) ⟨by simp only; omega, by simp only; omega⟩ (fun h => by simp at h) (fun _ => ⟨by simp only; omega, by simp only; omega⟩) (fun h => by simp at h), by simp [endS]⟩) (fun h => absurd rfl h) (okL_nil _) (okL_nil _) (okL_nil _) (by simp)
  show OkL (n + 2) (allS n 0 p ++ [endS n])
  have hlen := allS_len n 0 p
  cases ha with
  | mk a1 a2 a3 a4 =>
    cases he with
    | mk b1 b2 b3 b4 =>
      refine .mk (by simp; omega) (fun x hx => ?_) (fun x hx => ?_) (fun x hx => ?_)
      all_goals rcases List.mem_append.1 hx with h | h
      · exact a2 x h
      · exact b2 x h
      · exact a3 x h
      · exact b3 x h
      · exact a4 x h
      · exact b4 x h
theorem wh_num (v x : Int) {l : List S127} {c : Int} (h : Wh l c) : Wh (numS v x :: l) c := by
  have := Wh.cons (x := numS v x) Wh.nil Wh.nil h
  simpa [numS] using this
theorem wh_own (n : Int) (b : S79) : Wh (ownS n b) 0 := by
  have h2 : Wh [if b.f1 < 0 then numS n (b.f2 + 1) else ⟨2, b.f1, [], [numS n (b.f2 + 1)], [numS n (b.f3 + 1)]⟩] 0 := by
    split
    · exact wh_num _ _ Wh.nil
    · have := Wh.cons (x := ⟨2, b.f1, [], [numS n (b.f2 + 1)], [numS n (b.f3 + 1)]⟩) (wh_num _ _ Wh.nil) (wh_num _ _ Wh.nil) Wh.nil
      simpa using this
  have := Wh.cons (x := ⟨1, 0, b.f0, [], []⟩) Wh.nil Wh.nil h2
  simpa [ownS] using this
theorem wh_all (n : Int) : ∀ (l : List S79) (i : Int), Wh (allS n i l) 0
  | [], _ => Wh.nil
  | b :: t, i => by
    have h2 := Wh.cons (x := ⟨2, n + 1, [], ownS n b, allS n (i + 1) t⟩) (wh_own n b) (wh_all n t (i + 1)) Wh.nil
    have := Wh.cons (x := isS n i) Wh.nil Wh.nil h2
    simpa [allS, isS] using this
theorem wh_build (n : Int) (p : List S79) : Wh (buildS n p) 1 := by
  have he : Wh [endS n] 0 := by
    have := Wh.cons (x := endS n) Wh.nil Wh.nil Wh.nil
    simpa [endS] using this
  have h3 := Wh.cons (x := ⟨3, n + 1, [], allS n 0 p ++ [endS n], []⟩) ((wh_all n p 0).append he) Wh.nil Wh.nil
  have := wh_num n 1 (wh_num (n + 1) 1 h3)
  simpa [buildS] using this
theorem rd_left {v e : List Int} {i : Int} (h0 : 0 ≤ i) (h : i < v.length) : rd (v ++ e) i = rd v i := by
  unfold rd
  rw [List.getD_eq_getElem?_getD, List.getD_eq_getElem?_getD, List.getElem?_append_left (by omega)]
theorem doStep_left {n : Int} {s : S111} (h : okStep n s) {v e : List Int} (hv : (v.length : Int) = n) : doStep (v ++ e) s = doStep v s ++ e := by
  obtain ⟨h1, h2, h3, h4, h5, h6⟩ := okStep_parts h
  have e1 : stepV s (v ++ e) = stepV s v := by
    unfold stepV
    split
    · rfl
    · split
      · exact rd_left (h5 ‹_›).1 (by have := (h5 ‹_›).2; omega)
      · rw [rd_left (h6 (by omega)).1.1 (by have := (h6 (by omega)).1.2; omega), rd_left (h6 (by omega)).2.1 (by have := (h6 (by omega)).2.2; omega)]
  unfold doStep
  rw [e1, List.set_append_left _ _ (by omega)]
theorem doing_left {n : Int} : ∀ {l : List S111} {v e : List Int}, (∀ s ∈ l, okStep n s) → (v.length : Int) = n → doing l (v ++ e) = doing l v ++ e
  | [], _, _, _, _ => rfl
  | s :: l, v, e, h, hv => by
    rw [doing_cons, doing_cons, doStep_left (h s (by simp)) hv]
    exact doing_left (fun x hx => h x (List.mem_cons_of_mem _ hx)) (by unfold doStep; rw [List.length_set]; exact hv)
section
variable {n : Int} {v : List Int} (hv : (v.length : Int) = n)
theorem rd_at (a q : Int) (hv : (v.length : Int) = n) : rd (v ++ [a, q]) n = a := by
  unfold rd
  rw [List.getD_eq_getElem?_getD, List.getElem?_append_right (by omega), show n.toNat - v.length = 0 by omega]; rfl
theorem rd_ask (a q : Int) (hv : (v.length : Int) = n) : rd (v ++ [a, q]) (n + 1) = q := by
  unfold rd
  rw [List.getD_eq_getElem?_getD, List.getElem?_append_right (by omega), show (n + 1).toNat - v.length = 1 by omega]; rfl
theorem set_at (a q x : Int) (hv : (v.length : Int) = n) : (v ++ [a, q]).set n.toNat x = v ++ [x, q] := by
  rw [List.set_append_right _ _ (by omega), show n.toNat - v.length = 0 by omega]; rfl
theorem set_ask (a q x : Int) (hv : (v.length : Int) = n) : (v ++ [a, q]).set (n + 1).toNat x = v ++ [a, x] := by
  rw [List.set_append_right _ _ (by omega), show (n + 1).toNat - v.length = 1 by omega]; rfl
theorem do_num_at (a q x : Int) (hv : (v.length : Int) = n) : doing [⟨1, n, 0, 0, x⟩] (v ++ [a, q]) = v ++ [x, q] := set_at a q x hv
theorem do_num_ask (a q x : Int) (hv : (v.length : Int) = n) : doing [⟨1, n + 1, 0, 0, x⟩] (v ++ [a, q]) = v ++ [a, x] := set_ask a q x hv
theorem do_end (a q : Int) (hv : (v.length : Int) = n) : doing [⟨2, n + 1, 0, 0, n⟩] (v ++ [a, q]) = v ++ [a, a] := by
  show (v ++ [a, q]).set (n + 1).toNat (rd (v ++ [a, q]) n) = _
  rw [rd_at a q hv, set_ask a q a hv]
theorem do_is (a q i : Int) (hv : (v.length : Int) = n) : doing [⟨1, n + 1, 0, 0, i + 2⟩, ⟨6, n + 1, n, n + 1, 0⟩] (v ++ [a, q]) = v ++ [a, if a < i + 2 then 1 else 0] := by
  rw [doing_cons]
  have e1 : doStep (v ++ [a, q]) ⟨1, n + 1, 0, 0, i + 2⟩ = v ++ [a, i + 2] := set_ask a q (i + 2) hv
  rw [e1]
  show (v ++ [a, i + 2]).set (n + 1).toNat (opv 6 (rd (v ++ [a, i + 2]) n) (rd (v ++ [a, i + 2]) (n + 1))) = _
  rw [rd_at a (i + 2) hv, rd_ask a (i + 2) hv, set_ask a (i + 2) _ hv]
  simp [opv]
end
theorem sh_own {n m : Int} {b : S79} (hb : OkB n m b) {v : List Int} (hv : (v.length : Int) = n) (hvv : vals n v) (a q t : Int) (ht : 0 ≤ t) : Sh (ownS n b) (v ++ [a, q]) t (doing b.f0 v ++ [nextOf b (doing b.f0 v) + 1, q]) t := by
  have hv2 := (doing_vals hb.steps hvv).1
  have h5 := hb.hi
  refine .code rfl ?_
  show Sh [if b.f1 < 0 then _ else _] (doing b.f0 (v ++ [a, q])) t _ t
  rw [doing_left hb.steps hv]
  generalize doing b.f0 v = u at hv2
  unfold nextOf
  by_cases h : b.f1 < 0
  · rw [if_pos h, if_neg (show ¬ b.f1 ≥ 0 by omega)]
    refine .code rfl ?_
    show Sh [] (doing [⟨1, n, 0, 0, b.f2 + 1⟩] (u ++ [a, q])) t _ t
    rw [do_num_at a q _ hv2]
    exact .nil _ _
  · rw [if_neg h, if_pos (show b.f1 ≥ 0 by omega)]
    refine .both rfl ?_ ht (.nil _ _)
    show Sh (if rd (u ++ [a, q]) b.f1 = 0 then [numS n (b.f3 + 1)] else [numS n (b.f2 + 1)]) (u ++ [a, q]) t _ t
    rw [rd_left (by omega) (by omega)]
    split
    · refine .code rfl ?_
      show Sh [] (doing [⟨1, n, 0, 0, b.f3 + 1⟩] (u ++ [a, q])) t _ t
      rw [do_num_at a q _ hv2]
      exact .nil _ _
    · refine .code rfl ?_
      show Sh [] (doing [⟨1, n, 0, 0, b.f2 + 1⟩] (u ++ [a, q])) t _ t
      rw [do_num_at a q _ hv2]
      exact .nil _ _
theorem sh_all {n m : Int} {v : List Int} (hvv : vals n v) (t : Int) (ht : 0 ≤ t) : ∀ (l : List S79) (i : Int) (j : Nat) (q : Int), j < l.length → (∀ b ∈ l, OkB n m b) →
    ∃ q', Sh (allS n i l) (v ++ [i + j + 1, q]) t (doing (l.getD j z79).f0 v ++ [nextOf (l.getD j z79) (doing (l.getD j z79).f0 v) + 1, q']) t
  | [], _, j, _, h, _ => absurd h (by simp)
  | b :: l, i, j, q, h, hb => by
    have hv := hvv.1
    have head : ∀ r, Sh [⟨2, n + 1, [], ownS n b, allS n (i + 1) l⟩] (v ++ [i + j + 1, if i + j + 1 < i + 2 then 1 else 0]) t r t → Sh (allS n i (b :: l)) (v ++ [i + j + 1, q]) t r t := fun r hr => by
      refine .code rfl ?_
      show Sh _ (doing [⟨1, n + 1, 0, 0, i + 2⟩, ⟨6, n + 1, n, n + 1, 0⟩] (v ++ [i + j + 1, q])) t r t
      rw [do_is _ _ _ hv]
      exact hr
    cases j with
    | zero =>
      refine ⟨1, head _ ?_⟩
      rw [if_pos (by omega)]
      refine .both rfl ?_ ht (.nil _ _)
      rw [rd_ask _ _ hv, if_neg (by decide)]
      exact sh_own (hb b (by simp)) hv hvv _ _ t ht
    | succ j =>
      obtain ⟨q', ih⟩ := sh_all hvv t ht l (i + 1) j 0 (by simpa using h) (fun x hx => hb x (List.mem_cons_of_mem _ hx))
      refine ⟨q', head _ ?_⟩
      rw [if_neg (by omega)]
      refine .both rfl ?_ ht (.nil _ _)
      rw [rd_ask _ _ hv, if_pos rfl]
      have e : i + 1 + (j : Int) + 1 = i + ((j + 1 : Nat) : Int) + 1 := by omega
      rw [← e]
      exact ih
theorem sh_loop {n : Int} {p : List S79} (hp : OkP n p) : ∀ (m : Nat) (at_ : Int) (v was : List Int) (t : Int), vals n v → (at_ = -1 ∨ 0 ≤ at_ ∧ at_ < p.length) → (m : Int) ≤ t → (goN p m at_ v was).2.2 = true →
    ∃ t', 0 ≤ t' ∧ Sh [⟨3, n + 1, [], allS n 0 p ++ [endS n], []⟩] (v ++ [at_ + 1, at_ + 1]) t ((goN p m at_ v was).1 ++ [0, 0]) t' := by
  intro m
  induction m with
  | zero =>
    intro at_ v was t hv ha ht h
    rw [goN] at h ⊢
    by_cases e : at_ = -1
    · rw [if_pos e]
      subst e
      exact ⟨t, by omega, .whileEnd rfl (rd_ask _ _ hv.1) (.nil _ _)⟩
    · rw [if_neg e] at h; exact absurd h (by simp)
  | succ m ih =>
    intro at_ v was t hv ha ht h
    rw [goN] at h ⊢
    by_cases e : at_ = -1
    · rw [if_pos e]
      subst e
      exact ⟨t, by omega, .whileEnd rfl (rd_ask _ _ hv.1) (.nil _ _)⟩
    · rw [if_neg e] at h ⊢
      have ha2 : 0 ≤ at_ ∧ at_ < p.length := by omega
      have hb := hp _ (rdT79_mem ha2.1 ha2.2)
      have hv2 := doing_vals hb.steps hv
      obtain ⟨t', ht', hs⟩ := ih _ _ _ (t - 1) hv2 (nextOf_ok hb _) (by omega) h
      obtain ⟨q', ha⟩ := sh_all (m := p.length) hv (t - 1) (by omega) p 0 at_.toNat (at_ + 1) (by omega) hp
      refine ⟨t', ht', .whileGo rfl (by rw [rd_ask _ _ hv.1]; omega) (by omega) ?_ (show (0 : Int) ≤ t - 1 by omega) hs⟩
      have e1 : (0 : Int) + (at_.toNat : Int) + 1 = at_ + 1 := by omega
      rw [e1] at ha
      replace ha : Sh (allS n 0 p) (v ++ [at_ + 1, at_ + 1]) (t - 1) (doing (rd_T79 p at_).f0 v ++ [nextOf (rd_T79 p at_) (doing (rd_T79 p at_).f0 v) + 1, q']) (t - 1) := ha
      refine ha.append (by omega) (.code rfl ?_)
      show Sh [] (doing [⟨2, n + 1, 0, 0, n⟩] _) _ _ _
      rw [do_end _ _ hv2.1]
      exact .nil _ _
theorem sh_build {n : Int} {p : List S79} (hp : OkP n p) (h1 : 1 ≤ p.length) {v : List Int} (hv : vals n v) (h : (goN p 200 0 v []).2.2 = true) : ∃ t', 0 ≤ t' ∧ Sh (buildS n p) (v ++ [0, 0]) 200 ((goN p 200 0 v []).1 ++ [0, 0]) t' := by
  obtain ⟨t', ht', hs⟩ := sh_loop hp 200 0 v [] 200 hv (.inr ⟨Int.le_refl _, by omega⟩) (by decide) h
  refine ⟨t', ht', .code rfl ?_⟩
  show Sh _ (doing [⟨1, n, 0, 0, 1⟩] (v ++ [0, 0])) 200 _ t'
  rw [do_num_at _ _ _ hv.1]
  refine .code rfl ?_
  show Sh _ (doing [⟨1, n + 1, 0, 0, 1⟩] (v ++ [1, 0])) 200 _ t'
  rw [do_num_ask _ _ _ hv.1]
  exact hs
end Go.Proofs.Ytaicamjpcnhjcaa.PA
namespace Go.Proofs.Ytaicamjpcnhjcaa.Pure
open Go.RowKit Go.Proofs.Ytaicamjpcnhjcaa.PA Go.Proofs.YtaicamjpcnhjcaaW.PrintWords Go.Proofs.YtaicamjpcnhjcaaW.PrintLast
set_option linter.unusedVariables false
theorem ShapeBuilds_pure (a0 : Int) (l1 : List S79) (l2 : List Int) (w0 : (Lit.int .i64 a0).wf = true) (hg1 : ∀ y ∈ l1, good79 y) (y1 : l1.length * 48 ≤ 140737488351232) (hg2 : ∀ y ∈ l2, in64 y) (y2 : l2.length * 8 ≤ 140737488351232) : ∃ k, codemasonlaw_ShapeBuilds.f k a0 l1 l2 = some true := by
  refine Ev.rounds (r := true) ?_
  unfold codemasonlaw_ShapeBuilds.f shape_Build.f
  rw [if_pos (fun b hb => (hg1 b hb).2.1)]
  have hpc := progCheck_ev a0 l1 (by omega) (fun b hb => by have := (hg1 b hb).2.1; omega)
  simp only [Option.bind_some]
  refine Ev.bind hpc ?_
  by_cases hc : blockCheck a0 l1 = 0
  · obtain ⟨v1, v6, p1, p8, ps, hp⟩ := blockCheck_zero hc hg1
    rw [hc]
    refine ev_pos rfl ?_
    refine ev_succ ?_
    simp only [codemasonlaw_ShapeBuilds.j0, decide_eq_true_eq]
    refine ev_ite (fun h4 => ?_) (fun h4 => ?_)
    · refine ev_succ ?_
      simp only [codemasonlaw_ShapeBuilds.j1, if_neg (show ¬ (0 : Int) ≠ 0 by decide), if_pos h4]
      exact ev_neg (by decide) (ev_pos (by simp) (ev_some (by simp)))
    · have hok := okL_build v1 (by omega) hp p8
      refine ev_succ ?_
      simp only [codemasonlaw_ShapeBuilds.j1, if_neg (show ¬ (0 : Int) ≠ 0 by decide), if_neg h4, wrap_in (x := a0 + 2) (by omega) (by omega), codemasonref_Right.f]
      refine ev_pos (by simp) (ev_pos (by simp) (Ev.bind (a := true) (Ev.bind (kinds0_ev hok) (ev_some (by simp))) (ev_pos (by simp) (Ev.bind ((whiles_ev (wh_build a0 l1) (by decide)).1 _ hok) ?_))))
      refine ev_succ ?_
      simp only [codemasonlaw_ShapeBuilds.j2]
      refine ev_neg (by decide) (Ev.bind (haveCheck_ev a0 l2 (by omega)) (ev_ite (fun he => ?_) (fun he => Ev.now _)))
      have hv := haveErr_zero he
      have hl := hv.1
      refine Ev.bind (goes_ev hp (by omega) p1 hv 200 (by decide)) (ev_ite (fun hg => ?_) (fun _ => Ev.now _))
      obtain ⟨t', ht', hs⟩ := sh_build hp p1 hv hg
      have hwv := goN_vals hp 200 0 l2 [] hv (.inr ⟨Int.le_refl _, by omega⟩) hg
      have hwl := hwv.1
      have hv0 : vals (a0 + 2) (l2 ++ [0, 0]) := ⟨by simp; omega, fun x hx => by
        rcases List.mem_append.1 hx with h | h
        · exact hv.2 x h
        · have : x = 0 := by simpa using h
          subst this
          exact ⟨by decide, by decide⟩⟩
      have hd := shapedF_ev (by omega) hs hok hv0 (by decide) (by decide)
      simp only [Option.bind_some, List.length_nil, List.nil_append]
      refine ev_pos (by omega) (ev_pos (by simp; omega) (Ev.bind hd (ev_pos ht' (ev_pos (by omega) (ev_pos (by simp; omega) ?_)))))
      have e : ((goN l1 200 0 l2 []).1 ++ [0, 0]).take a0.toNat = (goN l1 200 0 l2 []).1 := by
        rw [List.take_append_of_le_length (by omega), List.take_of_length_le (by omega)]
      rw [e]
      exact Ev.bind (ints_self _ (by omega)) (Ev.now _)
  · refine ev_neg hc ?_
    refine ev_succ ?_
    simp only [codemasonlaw_ShapeBuilds.j0]
    refine ev_neg (by decide) ?_
    refine ev_succ ?_
    simp only [codemasonlaw_ShapeBuilds.j1, if_pos hc]
    exact ev_neg hc (ev_pos (by simp) (ev_some (by simp)))
end Go.Proofs.Ytaicamjpcnhjcaa.Pure
