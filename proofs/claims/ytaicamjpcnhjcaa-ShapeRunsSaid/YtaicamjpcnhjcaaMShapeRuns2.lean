/- Texts of one proof, merged: PA0, PA1, PA110, PA150, PA76, PA111, PA49, PA139, PA69, PA79, PA77, PA70, PA21, PA24, PA82, PA33, PA105. -/
import Derived.Test.YtaicamjpcnhjcaaMShapeRuns1
import Derived.Laws.StructEq
import Derived.Test.YtaicamjpcnhjcaaProg
import Derived.Below
import Derived.Deep.Draws
import Derived.Deep.AppendLies
import Derived.Maps.AppendAt
import Derived.OwnWalk
import Derived.Laws.BytesArg
import Derived.Laws.MakeOwn
import Derived.Laws.OwnMore
import Derived.Deep.OwnRows
import Derived.Tactics
import Derived.Lib.ConvBytes
import Derived.Laws.Slices
import Derived.WalkKit
import Derived.KernelRfl
import Derived.RowKit3
import Derived.Deep.LoopGhost
import Derived.Deep.QuietTactic
import Derived.BigQuiet
import Derived.WideLaws
import Derived.Deep.DeepCutAuto
import Derived.Deep.CutBlock
import Derived.Deep.RegionHeld3
import Derived.Laws.Rows
import Derived.Lib.AppendStr
import Derived.ArgAppend
import Derived.Laws.IdiomCopy
import Derived.OrdersHeld
import Derived.Laws.BitsLemmas
import Derived.RowKit
namespace Go.Proofs.Ytaicamjpcnhjcaa.PA
open Go.RowKit Go.Proofs.YtaicamjpcnhjcaaW.PrintWords Go.Proofs.YtaicamjpcnhjcaaW.PrintLast Go.Proofs.YtaicamjpcnhjcaaW.PrintMore
set_option linter.unusedVariables false
set_option linter.unusedSimpArgs false
def errW : Option Int → Value
  | none => .nilIface
  | some c => .iface 0 (.int .i64 c)
theorem errW_none : errW none = .nilIface := rfl
theorem errW_some (c : Int) : errW (some c) = .iface 0 (.int .i64 c) := rfl
theorem info3 : (Try.prog.info? 3).map (fun i => (i.zero, i.size, i.bytes)) = some (some (.int .i64 0), 1, 8) := by kernel_rfl
structure S111 where
  f0 : Int
  f1 : Int
  f2 : Int
  f3 : Int
  f4 : Int
def z111 : S111 := ⟨(0 : Int), (0 : Int), (0 : Int), (0 : Int), (0 : Int)⟩
def k111 : Kd S111 := Kd.iso (Kd.pair (Kd.int .i64) (Kd.pair (Kd.int .i64) (Kd.pair (Kd.int .i64) (Kd.pair (Kd.int .i64) (Kd.int .i64))))) (fun x : S111 => (x.f0, x.f1, x.f2, x.f3, x.f4))
theorem k111_heap : Kd.Heap k111 := Kd.heap_iso _ (Kd.heap_pair (Kd.heap_int .i64) (Kd.heap_pair (Kd.heap_int .i64) (Kd.heap_pair (Kd.heap_int .i64) (Kd.heap_pair (Kd.heap_int .i64) (Kd.heap_int .i64)))))
theorem k111_open {w : World} {x : S111} {cs : List Value} (h : k111.K w x cs) : cs = [.int .i64 x.f0, .int .i64 x.f1, .int .i64 x.f2, .int .i64 x.f3, .int .i64 x.f4] := by
  obtain ⟨_, _, rfl, rfl, ⟨_, _, rfl, rfl, ⟨_, _, rfl, rfl, ⟨_, _, rfl, rfl, rfl⟩⟩⟩⟩ := h
  exact rfl
theorem k111_mk (w : World) (x : S111)  : k111.K w x [.int .i64 x.f0, .int .i64 x.f1, .int .i64 x.f2, .int .i64 x.f3, .int .i64 x.f4] := ⟨[.int .i64 x.f0], [.int .i64 x.f1, .int .i64 x.f2, .int .i64 x.f3, .int .i64 x.f4], rfl, rfl, ⟨[.int .i64 x.f1], [.int .i64 x.f2, .int .i64 x.f3, .int .i64 x.f4], rfl, rfl, ⟨[.int .i64 x.f2], [.int .i64 x.f3, .int .i64 x.f4], rfl, rfl, ⟨[.int .i64 x.f3], [.int .i64 x.f4], rfl, rfl, rfl⟩⟩⟩⟩
def rd_T111 (xs : List S111) (i : Int) : S111 := xs.getD i.toNat z111
theorem at_T111 {w : World} {A : Option Addr} {n : Nat} {xs : List S111} (h : Kd.C k111 w A n xs) (i : Int) (h0 : 0 ≤ i) (h1 : i < n) : ∃ ad , A = some ad ∧ w.cell? (ad.add (i.toNat * 5)) = some (.int .i64 (rd_T111 xs i).f0) ∧ w.cell? ⟨(ad.add (i.toNat * 5)).block, (ad.add (i.toNat * 5)).off + 1, none⟩ = some (.int .i64 (rd_T111 xs i).f1) ∧ w.cell? ⟨(ad.add (i.toNat * 5)).block, (ad.add (i.toNat * 5)).off + 2, none⟩ = some (.int .i64 (rd_T111 xs i).f2) ∧ w.cell? ⟨(ad.add (i.toNat * 5)).block, (ad.add (i.toNat * 5)).off + 3, none⟩ = some (.int .i64 (rd_T111 xs i).f3) ∧ w.cell? ⟨(ad.add (i.toNat * 5)).block, (ad.add (i.toNat * 5)).off + 4, none⟩ = some (.int .i64 (rd_T111 xs i).f4) := by
  obtain ⟨ad, c, e, _, hK, hc0⟩ := Kd.C_get h z111 i h0 h1
  have hc : ∀ j u, c[j]? = some u → w.cell? (ad.add (i.toNat * 5 + j)) = some u := hc0
  obtain rfl := k111_open hK
  exact ⟨ad, e, hc 0 _ rfl, by rw [← add_field _ _ 1 (by omega)]; exact hc 1 _ rfl, by rw [← add_field _ _ 2 (by omega)]; exact hc 2 _ rfl, by rw [← add_field _ _ 3 (by omega)]; exact hc 3 _ rfl, by rw [← add_field _ _ 4 (by omega)]; exact hc 4 _ rfl⟩
structure S127 where
  f0 : Int
  f1 : Int
  f2 : (List S111)
  f3 : (List S127)
  f4 : (List S127)
def z127 : S127 := ⟨(0 : Int), (0 : Int), ([] : List S111), ([] : List S127), ([] : List S127)⟩
def F127 (d : Kd S127) : Kd S127 := Kd.iso (Kd.pair (Kd.int .i64) (Kd.pair (Kd.int .i64) (Kd.pair (Kd.slice 111 k111) (Kd.pair (Kd.slice 127 d) (Kd.slice 127 d))))) (fun x : S127 => (x.f0, x.f1, x.f2, x.f3, x.f4))
theorem mono127 : Kd.Mono F127 := Kd.mono_iso _ (Kd.mono_pair (Kd.mono_const _) (Kd.mono_pair (Kd.mono_const _) (Kd.mono_pair (Kd.mono_const _) (Kd.mono_pair (Kd.mono_slice 127 Kd.mono_id) (Kd.mono_slice 127 Kd.mono_id)))))
theorem sub127 : Kd.Sub F127 [111, 127] := Kd.sub_iso _ (Kd.sub_pair (Kd.sub_const _ (by decide)) (Kd.sub_pair (Kd.sub_const _ (by decide)) (Kd.sub_pair (Kd.sub_const _ (by decide)) (Kd.sub_pair (Kd.sub_slice 127 (by decide) Kd.sub_id) (Kd.sub_slice 127 (by decide) Kd.sub_id)))))
theorem sz127 : ∀ n, (Kd.upto F127 5 [111, 127] n).sz = 5 := Kd.upto_sz (fun _ => rfl)
def k127 : Kd S127 := Kd.fix F127 5 [111, 127] sz127 (Kd.upto_E sub127)
theorem k127_open {w : World} {x : S127} {cs : List Value} (h : k127.K w x cs) : ∃ A2 c2 A3 c3 A4 c4, cs = [.int .i64 x.f0, .int .i64 x.f1, .slice A2 x.f2.length c2, .slice A3 x.f3.length c3, .slice A4 x.f4.length c4] ∧ x.f2.length ≤ c2 ∧ k111.C w A2 x.f2.length x.f2 ∧ x.f3.length ≤ c3 ∧ k127.C w A3 x.f3.length x.f3 ∧ x.f4.length ≤ c4 ∧ k127.C w A4 x.f4.length x.f4 := by
  obtain ⟨n, h⟩ := h
  cases n with
  | zero => exact h.elim
  | succ n =>
    obtain ⟨_, _, rfl, rfl, ⟨_, _, rfl, rfl, ⟨_, _, rfl, ⟨A2, c2, rfl, l2, g2⟩, ⟨_, _, rfl, ⟨A3, c3, rfl, l3, g3⟩, ⟨A4, c4, rfl, l4, g4⟩⟩⟩⟩⟩ := h
    exact ⟨A2, c2, A3, c3, A4, c4, rfl, l2, g2, l3, Kd.fix_C g3, l4, Kd.fix_C g4⟩
theorem k127_mk (w : World) (x : S127) {A2 : Option Addr} {c2 : Nat} (l2 : x.f2.length ≤ c2) (g2 : k111.C w A2 x.f2.length x.f2) {A3 : Option Addr} {c3 : Nat} (l3 : x.f3.length ≤ c3) (g3 : k127.C w A3 x.f3.length x.f3) {A4 : Option Addr} {c4 : Nat} (l4 : x.f4.length ≤ c4) (g4 : k127.C w A4 x.f4.length x.f4) : k127.K w x [.int .i64 x.f0, .int .i64 x.f1, .slice A2 x.f2.length c2, .slice A3 x.f3.length c3, .slice A4 x.f4.length c4] := by
  obtain ⟨n3, q3⟩ := Kd.fix_C_back mono127 g3
  obtain ⟨n4, q4⟩ := Kd.fix_C_back mono127 g4
  have r3 := Kd.upto_C_le mono127 sz127 (show n3 ≤ (max n3 n4) by omega) q3
  have r4 := Kd.upto_C_le mono127 sz127 (show n4 ≤ (max n3 n4) by omega) q4
  exact ⟨(max n3 n4) + 1, ⟨[.int .i64 x.f0], [.int .i64 x.f1, .slice A2 x.f2.length c2, .slice A3 x.f3.length c3, .slice A4 x.f4.length c4], rfl, rfl, ⟨[.int .i64 x.f1], [.slice A2 x.f2.length c2, .slice A3 x.f3.length c3, .slice A4 x.f4.length c4], rfl, rfl, ⟨[.slice A2 x.f2.length c2], [.slice A3 x.f3.length c3, .slice A4 x.f4.length c4], rfl, ⟨A2, c2, rfl, l2, g2⟩, ⟨[.slice A3 x.f3.length c3], [.slice A4 x.f4.length c4], rfl, ⟨A3, c3, rfl, l3, r3⟩, ⟨A4, c4, rfl, l4, r4⟩⟩⟩⟩⟩⟩
def rd_T127 (xs : List S127) (i : Int) : S127 := xs.getD i.toNat z127
theorem at_T127 {w : World} {A : Option Addr} {n : Nat} {xs : List S127} (h : Kd.C k127 w A n xs) (i : Int) (h0 : 0 ≤ i) (h1 : i < n) : ∃ ad A2 c2 A3 c3 A4 c4, A = some ad ∧ w.cell? (ad.add (i.toNat * 5)) = some (.int .i64 (rd_T127 xs i).f0) ∧ w.cell? ⟨(ad.add (i.toNat * 5)).block, (ad.add (i.toNat * 5)).off + 1, none⟩ = some (.int .i64 (rd_T127 xs i).f1) ∧ w.cell? ⟨(ad.add (i.toNat * 5)).block, (ad.add (i.toNat * 5)).off + 2, none⟩ = some (.slice A2 (rd_T127 xs i).f2.length c2) ∧ w.cell? ⟨(ad.add (i.toNat * 5)).block, (ad.add (i.toNat * 5)).off + 3, none⟩ = some (.slice A3 (rd_T127 xs i).f3.length c3) ∧ w.cell? ⟨(ad.add (i.toNat * 5)).block, (ad.add (i.toNat * 5)).off + 4, none⟩ = some (.slice A4 (rd_T127 xs i).f4.length c4) ∧ (rd_T127 xs i).f2.length ≤ c2 ∧ k111.C w A2 (rd_T127 xs i).f2.length (rd_T127 xs i).f2 ∧ (rd_T127 xs i).f3.length ≤ c3 ∧ k127.C w A3 (rd_T127 xs i).f3.length (rd_T127 xs i).f3 ∧ (rd_T127 xs i).f4.length ≤ c4 ∧ k127.C w A4 (rd_T127 xs i).f4.length (rd_T127 xs i).f4 := by
  obtain ⟨ad, c, e, _, hK, hc0⟩ := Kd.C_get h z127 i h0 h1
  have hc : ∀ j u, c[j]? = some u → w.cell? (ad.add (i.toNat * 5 + j)) = some u := hc0
  obtain ⟨A2, c2, A3, c3, A4, c4, rfl, l2, g2, l3, g3, l4, g4⟩ := k127_open hK
  exact ⟨ad, A2, c2, A3, c3, A4, c4, e, hc 0 _ rfl, by rw [← add_field _ _ 1 (by omega)]; exact hc 1 _ rfl, by rw [← add_field _ _ 2 (by omega)]; exact hc 2 _ rfl, by rw [← add_field _ _ 3 (by omega)]; exact hc 3 _ rfl, by rw [← add_field _ _ 4 (by omega)]; exact hc 4 _ rfl, l2, g2, l3, g3, l4, g4⟩
def rd_L7 (xs : List (List S127)) (i : Int) : (List S127) := xs.getD i.toNat ([] : List S127)
theorem at_L7 {w : World} {A : Option Addr} {n : Nat} {xs : List (List S127)} (h : Kd.C (Kd.slice 127 k127) w A n xs) (i : Int) (h0 : 0 ≤ i) (h1 : i < n) : ∃ ad A0 c0, A = some ad ∧ w.cell? (ad.add i.toNat) = some (.slice A0 (rd_L7 xs i).length c0) ∧ (rd_L7 xs i).length ≤ c0 ∧ k127.C w A0 (rd_L7 xs i).length (rd_L7 xs i) := by
  obtain ⟨ad, c, e, _, hK, hc0⟩ := Kd.C_get h ([] : List S127) i h0 h1
  have hc : ∀ j u, c[j]? = some u → w.cell? (ad.add (i.toNat * 1 + j)) = some u := hc0
  obtain ⟨A0, c0, rfl, l0, g0⟩ := hK
  exact ⟨ad, A0, c0, e, by have hq := hc 0 _ rfl; rwa [Nat.mul_one, Nat.add_zero] at hq, l0, g0⟩
structure S79 where
  f0 : (List S111)
  f1 : Int
  f2 : Int
  f3 : Int
def z79 : S79 := ⟨([] : List S111), (0 : Int), (0 : Int), (0 : Int)⟩
def k79 : Kd S79 := Kd.iso (Kd.pair (Kd.slice 111 k111) (Kd.pair (Kd.int .i64) (Kd.pair (Kd.int .i64) (Kd.int .i64)))) (fun x : S79 => (x.f0, x.f1, x.f2, x.f3))
theorem k79_open {w : World} {x : S79} {cs : List Value} (h : k79.K w x cs) : ∃ A0 c0, cs = [.slice A0 x.f0.length c0, .int .i64 x.f1, .int .i64 x.f2, .int .i64 x.f3] ∧ x.f0.length ≤ c0 ∧ k111.C w A0 x.f0.length x.f0 := by
  obtain ⟨_, _, rfl, ⟨A0, c0, rfl, l0, g0⟩, ⟨_, _, rfl, rfl, ⟨_, _, rfl, rfl, rfl⟩⟩⟩ := h
  exact ⟨A0, c0, rfl, l0, g0⟩
theorem k79_mk (w : World) (x : S79) {A0 : Option Addr} {c0 : Nat} (l0 : x.f0.length ≤ c0) (g0 : k111.C w A0 x.f0.length x.f0) : k79.K w x [.slice A0 x.f0.length c0, .int .i64 x.f1, .int .i64 x.f2, .int .i64 x.f3] := ⟨[.slice A0 x.f0.length c0], [.int .i64 x.f1, .int .i64 x.f2, .int .i64 x.f3], rfl, ⟨A0, c0, rfl, l0, g0⟩, ⟨[.int .i64 x.f1], [.int .i64 x.f2, .int .i64 x.f3], rfl, rfl, ⟨[.int .i64 x.f2], [.int .i64 x.f3], rfl, rfl, rfl⟩⟩⟩
def rd_T79 (xs : List S79) (i : Int) : S79 := xs.getD i.toNat z79
theorem at_T79 {w : World} {A : Option Addr} {n : Nat} {xs : List S79} (h : Kd.C k79 w A n xs) (i : Int) (h0 : 0 ≤ i) (h1 : i < n) : ∃ ad A0 c0, A = some ad ∧ w.cell? (ad.add (i.toNat * 4)) = some (.slice A0 (rd_T79 xs i).f0.length c0) ∧ w.cell? ⟨(ad.add (i.toNat * 4)).block, (ad.add (i.toNat * 4)).off + 1, none⟩ = some (.int .i64 (rd_T79 xs i).f1) ∧ w.cell? ⟨(ad.add (i.toNat * 4)).block, (ad.add (i.toNat * 4)).off + 2, none⟩ = some (.int .i64 (rd_T79 xs i).f2) ∧ w.cell? ⟨(ad.add (i.toNat * 4)).block, (ad.add (i.toNat * 4)).off + 3, none⟩ = some (.int .i64 (rd_T79 xs i).f3) ∧ (rd_T79 xs i).f0.length ≤ c0 ∧ k111.C w A0 (rd_T79 xs i).f0.length (rd_T79 xs i).f0 := by
  obtain ⟨ad, c, e, _, hK, hc0⟩ := Kd.C_get h z79 i h0 h1
  have hc : ∀ j u, c[j]? = some u → w.cell? (ad.add (i.toNat * 4 + j)) = some u := hc0
  obtain ⟨A0, c0, rfl, l0, g0⟩ := k79_open hK
  exact ⟨ad, A0, c0, e, hc 0 _ rfl, by rw [← add_field _ _ 1 (by omega)]; exact hc 1 _ rfl, by rw [← add_field _ _ 2 (by omega)]; exact hc 2 _ rfl, by rw [← add_field _ _ 3 (by omega)]; exact hc 3 _ rfl, l0, g0⟩
end Go.Proofs.Ytaicamjpcnhjcaa.PA
namespace Go.Proofs.Ytaicamjpcnhjcaa.PA
open Go.RowKit Go.Proofs.YtaicamjpcnhjcaaW.PrintWords Go.Proofs.YtaicamjpcnhjcaaW.PrintLast Go.Proofs.YtaicamjpcnhjcaaW.PrintMore
set_option linter.unusedVariables false
set_option linter.unusedSimpArgs false
theorem ret_int {k : IntKind} {a b : Int} (h : a = b) : Ending.returned (Value.int k a) = .returned (.int k b) := by rw [h]
theorem ret_bool {a b : Bool} (h : a = b) : Ending.returned (Value.bool a) = .returned (.bool b) := by rw [h]
theorem drop_at {α : Type} (d : α) {l : List α} {k : Nat} (h : k < l.length) : l.drop k = l.getD k d :: l.drop (k + 1) := by
  rw [List.drop_eq_getElem_cons h, List.getD_eq_getElem?_getD, List.getElem?_eq_getElem h]; rfl
theorem box_cell {w wr : World} {v : Value} {t : TypeId} (hb : Below (w.heap.size + 1) (w.alloc (.cells #[v] t)) wr) : wr.cell? ⟨w.heap.size, 0, none⟩ = some v :=
  (hb.cell (p := ⟨w.heap.size, 0, none⟩) (by simp)).trans (by simp [go_sem])
theorem box_cells {w wr : World} {cs : Array Value} {t : TypeId} (hb : Below (w.heap.size + 1) (w.alloc (.cells cs t)) wr) (j : Nat) {v : Value} (hv : cs[j]? = some v) : wr.cell? ⟨w.heap.size, j, none⟩ = some v :=
  (hb.cell (p := ⟨w.heap.size, j, none⟩) (by simp)).trans (by simp [go_sem, hv])
theorem below_box {w wr : World} {o : Obj} (hb : Below (w.heap.size + 1) (w.alloc o) wr) : Below w.heap.size w wr := ((Below.refl _ _).alloc (Nat.le_refl _) _).trans (hb.mono (Nat.le_succ _))
theorem below_alloc_then {B N : Nat} {w w1 w2 : World} {o : Obj} (h : Below B w w1) (hB : B ≤ w1.heap.size) (k : Below N (w1.alloc o) w2) (hN : B ≤ N) : Below B w w2 := (h.alloc hB o).trans (k.mono hN)
theorem box_size {w wr : World} {o : Obj} (hb : Below (w.heap.size + 1) (w.alloc o) wr) : w.heap.size + 1 ≤ wr.heap.size := by simpa using hb.size
section
variable {w : World} {A : Option Addr} {n : Nat}
theorem int_at {kd : IntKind} {xs : List Int} (h : Kd.C (Kd.int kd) w A n xs) (k : Nat) (hk : k < n) : ∃ ad, A = some ad ∧ w.cell? (ad.add k) = some (.int kd (xs.getD k 0)) := Kd.at_int h k (by omega) (by omega)
theorem T111_at {xs : List S111} (h : Kd.C k111 w A n xs) (k : Nat) (hk : k < n) : ∃ ad, A = some ad ∧ w.cell? (ad.add (k * 5)) = some (.int .i64 (xs.getD k z111).f0) ∧ w.cell? ⟨(ad.add (k * 5)).block, (ad.add (k * 5)).off + 1, none⟩ = some (.int .i64 (xs.getD k z111).f1) ∧ w.cell? ⟨(ad.add (k * 5)).block, (ad.add (k * 5)).off + 2, none⟩ = some (.int .i64 (xs.getD k z111).f2) ∧ w.cell? ⟨(ad.add (k * 5)).block, (ad.add (k * 5)).off + 3, none⟩ = some (.int .i64 (xs.getD k z111).f3) ∧ w.cell? ⟨(ad.add (k * 5)).block, (ad.add (k * 5)).off + 4, none⟩ = some (.int .i64 (xs.getD k z111).f4) := at_T111 h k (by omega) (by omega)
theorem T79_at {xs : List S79} (h : Kd.C k79 w A n xs) (k : Nat) (hk : k < n) : ∃ ad A0 c0, A = some ad ∧ w.cell? (ad.add (k * 4)) = some (.slice A0 (xs.getD k z79).f0.length c0) ∧ w.cell? ⟨(ad.add (k * 4)).block, (ad.add (k * 4)).off + 1, none⟩ = some (.int .i64 (xs.getD k z79).f1) ∧ w.cell? ⟨(ad.add (k * 4)).block, (ad.add (k * 4)).off + 2, none⟩ = some (.int .i64 (xs.getD k z79).f2) ∧ w.cell? ⟨(ad.add (k * 4)).block, (ad.add (k * 4)).off + 3, none⟩ = some (.int .i64 (xs.getD k z79).f3) ∧ (xs.getD k z79).f0.length ≤ c0 ∧ k111.C w A0 (xs.getD k z79).f0.length (xs.getD k z79).f0 := at_T79 h k (by omega) (by omega)
theorem T127_at {xs : List S127} (h : Kd.C k127 w A n xs) (k : Nat) (hk : k < n) : ∃ ad A2 c2 A3 c3 A4 c4, A = some ad ∧ w.cell? (ad.add (k * 5)) = some (.int .i64 (xs.getD k z127).f0) ∧ w.cell? ⟨(ad.add (k * 5)).block, (ad.add (k * 5)).off + 1, none⟩ = some (.int .i64 (xs.getD k z127).f1) ∧ w.cell? ⟨(ad.add (k * 5)).block, (ad.add (k * 5)).off + 2, none⟩ = some (.slice A2 (xs.getD k z127).f2.length c2) ∧ w.cell? ⟨(ad.add (k * 5)).block, (ad.add (k * 5)).off + 3, none⟩ = some (.slice A3 (xs.getD k z127).f3.length c3) ∧ w.cell? ⟨(ad.add (k * 5)).block, (ad.add (k * 5)).off + 4, none⟩ = some (.slice A4 (xs.getD k z127).f4.length c4) ∧ (xs.getD k z127).f2.length ≤ c2 ∧ k111.C w A2 (xs.getD k z127).f2.length (xs.getD k z127).f2 ∧ (xs.getD k z127).f3.length ≤ c3 ∧ k127.C w A3 (xs.getD k z127).f3.length (xs.getD k z127).f3 ∧ (xs.getD k z127).f4.length ≤ c4 ∧ k127.C w A4 (xs.getD k z127).f4.length (xs.getD k z127).f4 := at_T127 h k (by omega) (by omega)
theorem L7_at {xs : List (List S127)} (h : Kd.C (Kd.slice 127 k127) w A n xs) (k : Nat) (hk : k < n) : ∃ ad A0 c0, A = some ad ∧ w.cell? (ad.add k) = some (.slice A0 (xs.getD k []).length c0) ∧ (xs.getD k []).length ≤ c0 ∧ k127.C w A0 (xs.getD k []).length (xs.getD k []) := at_L7 h k (by omega) (by omega)
end
theorem two_rows {w : World} {g : Nat} {xs ys : List S127} {A B : Option Addr} {c d : Nat} (h1 : w.cell? ⟨g, 0, none⟩ = some (.slice A xs.length c)) (h2 : w.cell? ⟨g, 1, none⟩ = some (.slice B ys.length d))
    (k1 : xs.length ≤ c) (k2 : ys.length ≤ d) (r1 : k127.C w A xs.length xs) (r2 : k127.C w B ys.length ys) : Kd.C (Kd.slice 127 k127) w (some ⟨g, 0, none⟩) 2 [xs, ys] := by
  refine ⟨rfl, by omega, fun _ => ⟨_, rfl, fun j p hp => ?_⟩⟩
  match j, hp with
  | 0, hp => 
    obtain rfl : xs = p := by simpa using hp
    exact ⟨[.slice A xs.length c], rfl, ⟨A, c, rfl, k1, r1⟩, fun i u hu => by
      match i, hu with
      | 0, hu => obtain rfl : Value.slice A xs.length c = u := by simpa using hu
                 exact h1
      | i + 1, hu => simp at hu⟩
  | 1, hp =>
    obtain rfl : ys = p := by simpa using hp
    exact ⟨[.slice B ys.length d], rfl, ⟨B, d, rfl, k2, r2⟩, fun i u hu => by
      match i, hu with
      | 0, hu => obtain rfl : Value.slice B ys.length d = u := by simpa using hu
                 exact h2
      | i + 1, hu => simp at hu⟩
  | j + 2, hp => simp at hp
theorem one_int {w : World} {g : Nat} {x : Int} (h0 : w.cell? ⟨g, 0, none⟩ = some (.int .i64 x)) : Kd.C (Kd.int .i64) w (some ⟨g, 0, none⟩) 1 [x] := by
  refine ⟨rfl, by omega, fun _ => ⟨_, rfl, fun j p hp => ?_⟩⟩
  match j, hp with
  | 0, hp =>
    obtain rfl : x = p := by simpa using hp
    exact ⟨[.int .i64 x], rfl, rfl, fun i u hu => by
      match i, hu with
      | 0, hu => obtain rfl : _ = u := by simpa using hu
                 exact h0
      | i + 1, hu => simp at hu⟩
  | j + 1, hp => simp at hp
theorem one_block {w : World} {g : Nat} {b : S79} {A : Option Addr} {c : Nat} (h0 : w.cell? ⟨g, 0, none⟩ = some (.slice A b.f0.length c)) (h1 : w.cell? ⟨g, 1, none⟩ = some (.int .i64 b.f1)) (h2 : w.cell? ⟨g, 2, none⟩ = some (.int .i64 b.f2)) (h3 : w.cell? ⟨g, 3, none⟩ = some (.int .i64 b.f3))
    (k1 : b.f0.length ≤ c) (r1 : k111.C w A b.f0.length b.f0) : Kd.C k79 w (some ⟨g, 0, none⟩) 1 [b] := by
  refine ⟨rfl, by omega, fun _ => ⟨_, rfl, fun j p hp => ?_⟩⟩
  match j, hp with
  | 0, hp =>
    obtain rfl : b = p := by simpa using hp
    exact ⟨[.slice A b.f0.length c, .int .i64 b.f1, .int .i64 b.f2, .int .i64 b.f3], rfl, k79_mk w b k1 r1, fun i u hu => by
      rw [Nat.zero_mul, Nat.zero_add, add_plain]
      match i, hu with
      | 0, hu => obtain rfl : _ = u := by simpa using hu
                 exact h0
      | 1, hu => obtain rfl : _ = u := by simpa using hu
                 exact h1
      | 2, hu => obtain rfl : _ = u := by simpa using hu
                 exact h2
      | 3, hu => obtain rfl : _ = u := by simpa using hu
                 exact h3
      | i + 4, hu => simp at hu⟩
  | j + 1, hp => simp at hp
end Go.Proofs.Ytaicamjpcnhjcaa.PA
namespace Go.Proofs.Ytaicamjpcnhjcaa.PA
open Go.RowKit Go.Proofs.YtaicamjpcnhjcaaW.PrintWords Go.Proofs.YtaicamjpcnhjcaaW.PrintLast Go.Proofs.YtaicamjpcnhjcaaW.PrintMore
set_option linter.unusedVariables false
set_option linter.unusedSimpArgs false
def sizePart (go : List S127 → Option (Int × Int × Int)) (p : List S127) (a : Int × Int × Int) : Option (Int × Int × Int) :=
  if (p.length : Int) > 0 then (go p).bind fun r => some (wrap64 (a.1 + r.1), wrap64 (a.2.1 + r.2.1), mx a.2.2 r.2.2) else some a
def sizeParts (go : List S127 → Option (Int × Int × Int)) : List (List S127) → Int × Int × Int → Option (Int × Int × Int)
  | [], a => some a
  | p :: t, a => (sizePart go p a).bind (sizeParts go t)
def sizeLoop (go : List S127 → Option (Int × Int × Int)) : List S127 → Int × Int × Int → Option (Int × Int × Int)
  | [], a => some a
  | x :: t, a => (sizeParts go [x.f3, x.f4] (a.1, wrap64 (a.2.1 + x.f2.length), a.2.2)).bind (sizeLoop go t)
def shape_size.f : Nat → List S127 → Int → Option (Int × Int × Int)
  | 0, _, _ => none
  | k + 1, l, deep => if (l.length : Int) > 8 ∨ deep > 5 then some (l.length, 0, deep) else sizeLoop (fun p => shape_size.f k p (wrap64 (deep + 1))) l (l.length, 0, deep)
theorem sizeLoop_at (go : List S127 → Option (Int × Int × Int)) {l : List S127} {i : Nat} (h : i < l.length) (a : Int × Int × Int) : sizeLoop go (l.drop i) a = (sizeParts go [(l.getD i z127).f3, (l.getD i z127).f4] (a.1, wrap64 (a.2.1 + (l.getD i z127).f2.length), a.2.2)).bind (sizeLoop go (l.drop (i + 1))) := by
  rw [drop_at z127 h]; rfl
theorem sizeParts_at (go : List S127 → Option (Int × Int × Int)) {l : List (List S127)} {i : Nat} (h : i < l.length) (a : Int × Int × Int) : sizeParts go (l.drop i) a = (sizePart go (l.getD i []) a).bind (sizeParts go (l.drop (i + 1))) := by
  rw [drop_at [] h]; rfl
theorem sizeParts_mono {go go' : List S127 → Option (Int × Int × Int)} (h : ∀ p, LeO (go p) (go' p)) : ∀ l a, LeO (sizeParts go l a) (sizeParts go' l a)
  | [], a => LeO.refl _
  | p :: t, a => LeO.bind (by unfold sizePart; exact LeO.ite (LeO.bind (h p) (fun _ => LeO.refl _)) (LeO.refl _)) (fun x => sizeParts_mono h t x)
theorem sizeLoop_mono {go go' : List S127 → Option (Int × Int × Int)} (h : ∀ p, LeO (go p) (go' p)) : ∀ l a, LeO (sizeLoop go l a) (sizeLoop go' l a)
  | [], a => LeO.refl _
  | x :: t, a => LeO.bind (sizeParts_mono h _ _) (fun y => sizeLoop_mono h t y)
theorem shape_size.mono : ∀ a0 a1 k, LeO (shape_size.f k a0 a1) (shape_size.f (k + 1) a0 a1) := fun a0 a1 k => by
  induction k generalizing a0 a1 with
  | zero => intro r h; cases h
  | succ k ih =>
    rw [shape_size.f, shape_size.f]
    exact LeO.ite (LeO.refl _) (sizeLoop_mono (fun p => ih p _) _ _)
set_option maxRecDepth 100000 in
set_option maxHeartbeats 4000000 in
theorem shape_size.calls : ∀ (k : Nat) (A0 : Option Addr) (c0 : Nat) (l0 : List S127) (a1 : Int) (r1 r2 r3 : Int) (w : World) (hr0 : Kd.C k127 w A0 l0.length l0) (hc0 : l0.length ≤ c0) (h : shape_size.f k l0 a1 = some (r1, r2, r3)),
    Calls Try.prog 110 #[.slice A0 l0.length c0, .int .i64 a1] w fun e w' => e = .returned (.tuple #[.int .i64 r1, .int .i64 r2, .int .i64 r3]) ∧ Below w.heap.size w w' := by
  intro k
  induction k with
  | zero => intro _ _ _ _ _ _ _ _ _ _ h; simp [shape_size.f] at h
  | succ k ih =>
    intro A0 c0 l0 a1 r1 r2 r3 w hr0 hc0 h
    have IH := Aside0.mk ih
    clear ih
    have hl := hr0.2.1
    have HR := Aside0.mk hr0
    clear hr0
    rw [shape_size.f] at h
    by_cases hd : (l0.length : Int) > 8 ∨ a1 > 5
    · rw [if_pos hd, Option.some.injEq, Prod.mk.injEq, Prod.mk.injEq] at h
      obtain ⟨rfl, rfl, rfl⟩ := h
      go_enter Try.func110, Try.ntmps110
      go_wp2
      all_goals
        go_ret3
        exact ⟨rfl, Below.refl _ _⟩
    · rw [if_neg hd] at h
      have hd1 : (l0.length : Int) ≤ 8 := by omega
      have hd2 : a1 ≤ 5 := by omega
      have HA := Aside0.mk h
      generalize hgo : (fun p => shape_size.f k p (wrap64 (a1 + 1))) = go at HA
      have Hgo := Aside0.mk hgo
      clear hd h hgo
      go_enter Try.func110, Try.ntmps110
      go_wp2_with fail
      go_loopw [7, 8, 9, 31] (fun m s d i wr => ∃ (j : Nat) (q1 q2 q3 : Int), j ≤ l0.length ∧ m = .int .i64 q1 ∧ s = .int .i64 q2 ∧ d = .int .i64 q3 ∧ i = .int .i64 j ∧ Aside0 (sizeLoop go (l0.drop j) (q1, q2, q3) = some (r1, r2, r3)) ∧ Aside0 (Below w.heap.size w wr)) (fun _ _ _ i _ => l0.length - (intOf i).toNat)
      case atStart => exact ⟨0, _, _, _, by omega, rfl, rfl, rfl, rfl, HA, ⟨Below.refl _ _⟩⟩
      case round =>
        obtain ⟨j, q1, q2, q3, hj, rfl, rfl, rfl, rfl, HL, HB⟩ := hrel
        by_cases hjt : j < l0.length
        · obtain ⟨ad, A2, c2, A3, c3, A4, c4, e0, h0, h1, h2, h3, h4, lc2, hC2, lc3, hC3, lc4, hC4⟩ := T127_at (Kd.C_below HR.out HB.out) j hjt
          cases e0
          have hL := HL.out
          rw [sizeLoop_at _ hjt] at hL
          generalize l0.getD j z127 = x at h0 h1 h2 h3 h4 lc2 hC2 lc3 hC3 lc4 hC4 hL
          have L2 := hC2.2.1
          have L3 := hC3.2.1
          have L4 := hC4.2.1
          have H3 := Aside0.mk hC3
          have H4 := Aside0.mk hC4
          replace HL := Aside0.mk hL
          have Hc3 := Aside0.mk lc3
          have Hc4 := Aside0.mk lc4
          clear hC2 hC3 hC4 hL lc2 lc3 lc4
          go_wp2_with fail
          obtain ⟨wo, ho⟩ : ∃ wo : World, wo = wr := ⟨_, rfl⟩
          subst ho
          go_loopw [7, 8, 9, 46] (fun m s d i w' => ∃ (t : Nat) (q1 q2 q3 : Int), t ≤ 2 ∧ m = .int .i64 q1 ∧ s = .int .i64 q2 ∧ d = .int .i64 q3 ∧ i = .int .i64 t ∧ Aside0 ((sizeParts go ([x.f3, x.f4].drop t) (q1, q2, q3)).bind (sizeLoop go (l0.drop (j + 1))) = some (r1, r2, r3)) ∧
            Aside0 (Below (wo.heap.size + 2) ((wo.alloc (.cells #[.int .i64 x.f0, .int .i64 x.f1, .slice A2 x.f2.length c2, .slice A3 x.f3.length c3, .slice A4 x.f4.length c4] 127)).alloc (.cells #[.slice A3 x.f3.length c3, .slice A4 x.f4.length c4] 22)) w')) (fun _ _ _ i _ => 2 - (intOf i).toNat)
          case atStart => exact ⟨0, _, _, _, by omega, rfl, rfl, rfl, rfl, HL, ⟨Below.refl _ _⟩⟩
          case round =>
            clear HL h0 h1 h2 h3 h4
            obtain ⟨t, q1, q2, q3, ht, rfl, rfl, rfl, rfl, HS, HB2⟩ := hrel
            have hB := HB2.out
            have hB3 : Below wo.heap.size wo wr := (((Below.refl _ _).alloc (Nat.le_refl _) _).alloc (by simp) _).trans (hB.mono (by omega))
            have HB3 := Aside0.mk hB3
            clear hB3
            by_cases ht2 : t < 2
            · have hrow : Kd.C (Kd.slice 127 k127) wr (some ⟨wo.heap.size + 1, 0, none⟩) 2 [x.f3, x.f4] :=
                two_rows ((hB.cell (p := ⟨wo.heap.size + 1, 0, none⟩) (by simp)).trans (by simp [go_sem])) ((hB.cell (p := ⟨wo.heap.size + 1, 1, none⟩) (by simp)).trans (by simp [go_sem])) Hc3.out Hc4.out (Kd.C_below H3.out HB3.out) (Kd.C_below H4.out HB3.out)
              obtain ⟨ad2, Ap, cp, e2, g0, lp, hCp⟩ := L7_at hrow t ht2
              simp only [Option.some.injEq] at e2
              subst e2
              rw [add_plain] at g0
              have hS := HS.out
              rw [sizeParts_at _ (by simpa using ht2), Option.bind_assoc] at hS
              generalize [x.f3, x.f4].getD t [] = p at g0 lp hCp hS
              obtain ⟨⟨b1, b2, b3⟩, hp, hrest⟩ := Option.bind_eq_some_iff.1 hS
              have HP := Aside0.mk hrest
              have hlp := hCp.2.1
              have HCp := Aside0.mk hCp
              have Hlp := Aside0.mk lp
              have hbb : wo.heap.size + 2 ≤ wr.heap.size := by simpa using hB.size
              clear hS HS hrow hrest hCp lp hB
              by_cases hpl : (p.length : Int) > 0
              · rw [sizePart, if_pos hpl] at hp
                obtain ⟨⟨m1, m2, m3⟩, hg, hh⟩ := Option.bind_eq_some_iff.1 hp
                rw [← Hgo.out] at hg
                simp only [Option.some.injEq, Prod.mk.injEq] at hh
                obtain ⟨rfl, rfl, rfl⟩ := hh
                have HG := Aside0.mk hg
                clear hp hg
                go_wp2_with (go_at_call 110; refine (IH.out _ _ _ _ _ _ _ _ HCp.out Hlp.out HG.out).mono ?_; rintro e w2 ⟨rfl, hb2⟩)
                go_roundw
                case rel => exact ⟨t + 1, _, _, _, by omega, rfl, rfl, rfl, by go_num, HP, ⟨HB2.out.trans (hb2.mono hbb)⟩⟩
                case measure => simp [intOf]; omega
              · rw [sizePart, if_neg hpl] at hp
                simp only [Option.some.injEq, Prod.mk.injEq] at hp
                obtain ⟨rfl, rfl, rfl⟩ := hp
                go_wp2
                go_roundw
                case rel => exact ⟨t + 1, _, _, _, by omega, rfl, rfl, rfl, by go_num, HP, HB2⟩
                case measure => simp [intOf]; omega
            · have hS := HS.out
              rw [List.drop_of_length_le (by simp; omega)] at hS
              have HS' := Aside0.mk hS
              clear hS
              go_wp2
              go_roundw
              case rel => exact ⟨j + 1, _, _, _, by omega, rfl, rfl, rfl, by go_num, HS', ⟨HB.out.trans (HB3.out.mono HB.out.size)⟩⟩
              case measure => simp [intOf]; omega
        · have hL := HL.out
          rw [List.drop_of_length_le (by omega)] at hL
          simp only [sizeLoop, Option.some.injEq, Prod.mk.injEq] at hL
          obtain ⟨rfl, rfl, rfl⟩ := hL
          go_wp2
          go_ret3
          exact ⟨rfl, HB.out⟩
end Go.Proofs.Ytaicamjpcnhjcaa.PA
namespace Go.Proofs.Ytaicamjpcnhjcaa.PA
open Go.RowKit Go.Proofs.YtaicamjpcnhjcaaW.PrintWords Go.Proofs.YtaicamjpcnhjcaaW.PrintLast Go.Proofs.YtaicamjpcnhjcaaW.PrintMore
set_option linter.unusedVariables false
set_option linter.unusedSimpArgs false
def insB (v i : Int) : Bool := decide (0 ≤ i) && decide (i < v)
set_option maxHeartbeats 400000 in
theorem block_step_1.calls (i v : Int) (p : Addr) (w : World) (hp : w.cell? p = some (.int .i64 v)) :
    Calls Try.prog 176 #[.int .i64 i, .pointer (some p)] w fun e w' => e = .returned (.bool (insB v i)) ∧ w = w' := by
  by_cases h : 0 ≤ i
  all_goals
    go_enter Try.func176, Try.ntmps176
    go_wp2
    go_ret
    exact ⟨by simp [insB, h] <;> omega, rfl⟩
def stepE (v op c a b x : Int) : Int :=
  if op < 1 ∨ op > 6 then 6
  else if op = 1 ∧ (x < 0 ∨ x > 255) ∨ op = 2 ∧ insB v x = false then 4
  else if insB v c = false ∨ op > 2 ∧ (insB v a = false ∨ insB v b = false) then 2
  else 0
def block_step.f (a0 a1_0 a1_1 a1_2 a1_3 a1_4 : Int) : Option Int := some (stepE a0 a1_0 a1_1 a1_2 a1_3 a1_4)
set_option maxHeartbeats 4000000 in
theorem block_step.calls (a0 a1_0 a1_1 a1_2 a1_3 a1_4 : Int) (r : Int) (w : World) (h : block_step.f a0 a1_0 a1_1 a1_2 a1_3 a1_4 = some r) :
    Calls Try.prog 150 #[.int .i64 a0, .agg #[.int .i64 a1_0, .int .i64 a1_1, .int .i64 a1_2, .int .i64 a1_3, .int .i64 a1_4]] w fun e w' => e = .returned (.int .i64 r) ∧ Below w.heap.size w w' := by
  have H := Aside0.mk h
  clear h
  have hmf : ∀ (fn : Fn) (first cap : Array Value) (w : World), (Instr.makeFunc fn first cap).run Try.prog w = .ok (.func fn first cap) w := fun _ _ _ _ => rfl
  go_enter Try.func150, Try.ntmps150
  go_wp2_with (go_at_call 176; refine (block_step_1.calls _ a0 _ _ (by simp [go_sem])).mono ?_; rintro e w' ⟨rfl, rfl⟩)
  all_goals
    go_ret
    refine ⟨ret_int ?_, ?_⟩
    · have h := H.out
      clear H hmf
      simp only [block_step.f, stepE, Option.some.injEq] at h
      grind
    · exact ((Below.refl _ _).alloc (Nat.le_refl _) _).alloc (by simp) _
end Go.Proofs.Ytaicamjpcnhjcaa.PA
namespace Go.Proofs.Ytaicamjpcnhjcaa.PA
open Go.RowKit Go.Proofs.YtaicamjpcnhjcaaW.PrintWords Go.Proofs.YtaicamjpcnhjcaaW.PrintLast Go.Proofs.YtaicamjpcnhjcaaW.PrintMore
set_option linter.unusedVariables false
set_option linter.unusedSimpArgs false
def manyOf : List S79 → Int → Int
  | [], m => m
  | b :: t, m => manyOf t (wrap64 (m + b.f0.length))
def stepsErr (v : Int) : List S111 → Int
  | [] => 0
  | s :: t => if stepE v s.f0 s.f1 s.f2 s.f3 s.f4 ≠ 0 then stepE v s.f0 s.f1 s.f2 s.f3 s.f4 else stepsErr v t
def blockErr (v n : Int) (b : S79) : Int :=
  if stepsErr v b.f0 ≠ 0 then stepsErr v b.f0
  else if b.f1 < -1 ∨ b.f1 ≥ v then 2
  else if insB n b.f2 = false ∧ (b.f2 ≠ -1 ∨ b.f1 ≥ 0) ∨ b.f1 ≥ 0 ∧ insB n b.f3 = false then 3 else 0
def blocksErr (v n : Int) : List S79 → Int
  | [] => 0
  | b :: t => if blockErr v n b ≠ 0 then blockErr v n b else blocksErr v n t
def blockCheck (v : Int) (l : List S79) : Int :=
  if v < 1 ∨ v > 6 ∨ l.length < 1 ∨ l.length > 8 ∨ manyOf l 0 > 20 then 1 else blocksErr v l.length l
def block_Check.f (a0 : Int) (l1 : List S79) : Option Int := some (blockCheck a0 l1)
theorem stepsErr_at (v : Int) {l : List S111} {j : Nat} (h : j < l.length) : stepsErr v (l.drop j) = if stepE v (l.getD j z111).f0 (l.getD j z111).f1 (l.getD j z111).f2 (l.getD j z111).f3 (l.getD j z111).f4 ≠ 0 then stepE v (l.getD j z111).f0 (l.getD j z111).f1 (l.getD j z111).f2 (l.getD j z111).f3 (l.getD j z111).f4 else stepsErr v (l.drop (j + 1)) := by
  rw [drop_at z111 h]; rfl
theorem blocksErr_at (v n : Int) {l : List S79} {j : Nat} (h : j < l.length) : blocksErr v n (l.drop j) = if blockErr v n (l.getD j z79) ≠ 0 then blockErr v n (l.getD j z79) else blocksErr v n (l.drop (j + 1)) := by
  rw [drop_at z79 h]; rfl
set_option maxHeartbeats 400000 in
theorem block_Check_1.calls (i : Int) (A : Option Addr) (n c : Nat) (p : Addr) (w : World) (hp : w.cell? p = some (.slice A n c)) :
    Calls Try.prog 151 #[.int .i64 i, .pointer (some p)] w fun e w' => e = .returned (.bool (insB n i)) ∧ w = w' := by
  by_cases h : 0 ≤ i
  all_goals
    go_enter Try.func151, Try.ntmps151
    go_wp2
    go_ret
    exact ⟨by simp [insB, h] <;> omega, rfl⟩
set_option maxRecDepth 100000 in
set_option maxHeartbeats 4000000 in
theorem block_Check.calls (a0 : Int) (A1 : Option Addr) (c1 : Nat) (l1 : List S79) (r : Int) (w : World) (hr1 : Kd.C k79 w A1 l1.length l1) (hc1 : l1.length ≤ c1) (h : block_Check.f a0 l1 = some r) :
    Calls Try.prog 76 #[.int .i64 a0, .slice A1 l1.length c1] w fun e w' => e = .returned (.int .i64 r) ∧ Below w.heap.size w w' := by
  have HR := Aside0.mk hr1
  have H := Aside0.mk h
  have hl := hr1.2.1
  clear h hr1
  have hmf : ∀ (fn : Fn) (first cap : Array Value) (w : World), (Instr.makeFunc fn first cap).run Try.prog w = .ok (.func fn first cap) w := fun _ _ _ _ => rfl
  go_enter Try.func76, Try.ntmps76
  go_wp2_with fail
  go_loopw [5, 16] (fun m i wr => ∃ k : Nat, k ≤ l1.length ∧ i = .int .i64 k ∧ (∃ z : Int, m = .int .i64 z ∧ manyOf (l1.drop k) z = manyOf l1 0) ∧ Below (w.heap.size + 1) (w.alloc (.cells #[.slice A1 l1.length c1] 24)) wr) (fun _ i _ => l1.length - (intOf i).toNat)
  case atStart => exact ⟨0, Nat.zero_le _, rfl, ⟨0, rfl, rfl⟩, Below.refl _ _⟩
  case round =>
    obtain ⟨k, hk, rfl, ⟨z, rfl, hz⟩, hb⟩ := hrel
    have hbw : Below w.heap.size w wr := ((Below.refl _ _).alloc (Nat.le_refl _) _).trans (hb.mono (Nat.le_succ _))
    have hC := Aside0.mk (Kd.C_below HR.out hbw)
    have Hz := Aside0.mk hz
    have Hb := Aside0.mk hb
    have Hbw := Aside0.mk hbw
    clear hz hb hbw
    by_cases hlt : k < l1.length
    · obtain ⟨ad, A0, c0, e0, h0, h1, h2, h3, hl0, hC0⟩ := T79_at hC.out k hlt
      cases e0
      have HC0 := Aside0.mk hC0
      have Hl0 := Aside0.mk hl0
      clear hC0 hl0
      go_wp2
      go_roundw
      case rel => exact ⟨k + 1, by omega, by go_num, ⟨_, rfl, by have h := Hz.out; rw [drop_at z79 hlt] at h; simpa [manyOf, hlt] using h⟩, by have := Hb.out; exact this.alloc (by simpa using this.size) _⟩
      case measure => simp [intOf]; omega
    · have hz : z = manyOf l1 0 := by have h := Hz.out; rw [List.drop_of_length_le (by omega)] at h; exact h
      have hbx := box_cell Hb.out
      clear Hz
      by_cases hcond : a0 < 1 ∨ a0 > 6 ∨ l1.length < 1 ∨ l1.length > 8 ∨ z > 20
      · have hr : r = 1 := by have h := H.out; subst hz; simp only [block_Check.f, blockCheck, if_pos hcond, Option.some.injEq] at h; exact h.symm
        clear H hC hz
        go_wp2
        all_goals
          go_ret
          refine ⟨ret_int ?_, Hbw.out⟩
          omega
      · have hr : blocksErr a0 l1.length (l1.drop 0) = r := by have h := H.out; subst hz; simp only [block_Check.f, blockCheck, if_neg hcond, Option.some.injEq] at h; exact h
        have HE := Aside0.mk hr
        have hc : 1 ≤ a0 ∧ a0 ≤ 6 ∧ (1 : Int) ≤ l1.length ∧ (l1.length : Int) ≤ 8 ∧ z ≤ 20 := by omega
        obtain ⟨q1, q2, q3, q4, q5⟩ := hc
        clear H hC hz hr hcond
        go_wp2
        obtain ⟨wo, ho⟩ : ∃ wo : World, wo = wr := ⟨_, rfl⟩
        subst ho
        go_loopw [48] (fun i wr => ∃ k : Nat, k ≤ l1.length ∧ i = .int .i64 k ∧ Aside0 (blocksErr a0 l1.length (l1.drop k) = r) ∧ Aside0 (Below (w.heap.size + 1) (w.alloc (.cells #[.slice A1 l1.length c1] 24)) wr)) (fun i _ => l1.length - (intOf i).toNat)
        case atStart => exact ⟨0, by omega, rfl, HE, Hb⟩
        case round =>
          clear Hb Hbw HE hbx
          obtain ⟨k, hk, rfl, HE, Hb⟩ := hrel
          have Hbw : Aside0 (Below w.heap.size w wr) := ⟨((Below.refl _ _).alloc (Nat.le_refl _) _).trans (Hb.out.mono (Nat.le_succ _))⟩
          have hbx := box_cell Hb.out
          by_cases hlt : k < l1.length
          · obtain ⟨ad, A0, c0, e0, h0, h1, h2, h3, hl0, hC0⟩ := T79_at (Kd.C_below HR.out Hbw.out) k hlt
            cases e0
            have hE := HE.out
            rw [blocksErr_at _ _ hlt] at hE
            generalize l1.getD k z79 = b at h0 h1 h2 h3 hl0 hC0 hE
            have hn0 := hC0.2.1
            have HC0 := Aside0.mk hC0
            replace HE := Aside0.mk hE
            clear hC0 hl0 hE
            go_wp2
            obtain ⟨wo, ho⟩ : ∃ wo : World, wo = wr := ⟨_, rfl⟩
            subst ho
            go_loopw [55] (fun i w' => ∃ j : Nat, j ≤ b.f0.length ∧ i = .int .i64 j ∧ Aside0 (stepsErr a0 (b.f0.drop j) = stepsErr a0 b.f0) ∧ Aside0 (Below (wo.heap.size + 1) (wo.alloc (.cells #[.slice A0 b.f0.length c0, .int .i64 b.f1, .int .i64 b.f2, .int .i64 b.f3] 79)) w')) (fun i _ => b.f0.length - (intOf i).toNat)
            case atStart => exact ⟨0, by omega, rfl, ⟨rfl⟩, ⟨Below.refl _ _⟩⟩
            case round =>
              obtain ⟨j, hj, rfl, HS, Hb2⟩ := hrel
              have Hbo := Aside0.mk (below_box Hb2.out)
              clear hbx h0 h1 h2 h3
              by_cases hjt : j < b.f0.length
              · obtain ⟨ad2, e2, g0, g1, g2, g3, g4⟩ := T111_at (Kd.C_below HC0.out Hbo.out) j hjt
                cases e2
                have hS := HS.out
                rw [stepsErr_at _ hjt] at hS
                generalize b.f0.getD j z111 = s at g0 g1 g2 g3 g4 hS
                by_cases hs : stepE a0 s.f0 s.f1 s.f2 s.f3 s.f4 = 0
                · rw [if_neg (by simpa using hs)] at hS
                  have hsb : (stepE a0 s.f0 s.f1 s.f2 s.f3 s.f4 != 0) = false := by simp [hs]
                  replace HS := Aside0.mk hS
                  clear hs hS
                  go_wp2_with (go_at_call 150; refine (block_step.calls _ _ _ _ _ _ _ _ rfl).mono ?_; rintro e w2 ⟨rfl, hb2⟩)
                  go_roundw
                  case rel => exact ⟨j + 1, by omega, by go_num, HS, ⟨below_alloc_then Hb2.out (box_size Hb2.out) hb2 (by have := box_size Hb2.out; simp; omega)⟩⟩
                  case measure => simp [intOf]; omega
                · rw [if_pos hs] at hS
                  have hsb : (stepE a0 s.f0 s.f1 s.f2 s.f3 s.f4 != 0) = true := by simp [hs]
                  have hr : stepE a0 s.f0 s.f1 s.f2 s.f3 s.f4 = r := by
                    have h := HE.out
                    unfold blockErr at h
                    rw [← hS] at h
                    simpa [hs] using h
                  have HR2 := Aside0.mk hr
                  clear hs hS hr
                  go_wp2_with (go_at_call 150; refine (block_step.calls _ _ _ _ _ _ _ _ rfl).mono ?_; rintro e w2 ⟨rfl, hb2⟩)
                  go_ret
                  exact ⟨ret_int HR2.out, Hbw.out.trans (below_alloc_then (below_box Hb2.out) (below_box Hb2.out).size hb2 (by have := box_size Hb2.out; simp; omega) |>.mono Hbw.out.size)⟩
              · have g1 := box_cells Hb2.out 1 rfl
                have g2 := box_cells Hb2.out 2 rfl
                have g3 := box_cells Hb2.out 3 rfl
                have gp : wr.cell? ⟨w.heap.size, 0, none⟩ = some (.slice (some ad) l1.length c1) := box_cell (Hb.out.trans (Hbo.out.mono (box_size Hb.out)))
                have HS0 : Aside0 (stepsErr a0 b.f0 = 0) := ⟨by have h := HS.out; rw [List.drop_of_length_le (by omega)] at h; exact h.symm⟩
                clear HS
                go_wp2_with (go_at_call 151; refine (block_Check_1.calls _ _ _ _ _ _ gp).mono ?_; rintro e w2 ⟨rfl, rfl⟩)
                all_goals
                  have hE := HE.out
                  simp only [blockErr, HS0.out] at hE
                  clear HE HS0 hmf
                  first
                  | (go_ret; refine ⟨ret_int ?_, Hbo.out.mono Hbw.out.size |> Hbw.out.trans⟩; grind)
                  | (go_roundw
                     case rel => exact ⟨k + 1, by omega, by go_num, ⟨by grind⟩, ⟨Hb.out.trans (Hbo.out.mono (box_size Hb.out))⟩⟩
                     case measure => simp [intOf]; omega)
          · have hr : r = 0 := by have h := HE.out; rw [List.drop_of_length_le (by omega)] at h; exact h.symm
            go_wp2
            go_ret
            exact ⟨ret_int hr.symm, Hbw.out⟩
end Go.Proofs.Ytaicamjpcnhjcaa.PA
namespace Go.Proofs.Ytaicamjpcnhjcaa.PA
open Go.RowKit Go.Proofs.YtaicamjpcnhjcaaW.PrintWords Go.Proofs.YtaicamjpcnhjcaaW.PrintLast Go.Proofs.YtaicamjpcnhjcaaW.PrintMore
set_option linter.unusedVariables false
set_option linter.unusedSimpArgs false
def shapesParts (go : List S127 → Option Int) : List (List S127) → Option Int
  | [] => some 0
  | p :: t => (go p).bind fun e => if e = 0 then shapesParts go t else some e
def shapesLoop (own : S127 → Int) (go : List S127 → Option Int) : List S127 → Option Int
  | [] => some 0
  | x :: t => if own x = 0 then (shapesParts go [x.f3, x.f4]).bind fun e => if e = 0 then shapesLoop own go t else some e else some (own x)
def shapeOwn (v : Int) (x : S127) : Int :=
  if x.f0 < 1 ∨ x.f0 > 3 then 6 else if x.f0 = 1 then blockCheck v [⟨x.f2, -1, -1, 0⟩] else if x.f1 < 0 ∨ x.f1 ≥ v then 2 else 0
def shape_shapes.f : Nat → Int → List S127 → Option Int
  | 0, _, _ => none
  | k + 1, v, l => shapesLoop (shapeOwn v) (fun p => shape_shapes.f k v p) l
theorem shapesLoop_at (own : S127 → Int) (go : List S127 → Option Int) {l : List S127} {i : Nat} (h : i < l.length) : shapesLoop own go (l.drop i) = if own (l.getD i z127) = 0 then (shapesParts go [(l.getD i z127).f3, (l.getD i z127).f4]).bind fun e => if e = 0 then shapesLoop own go (l.drop (i + 1)) else some e else some (own (l.getD i z127)) := by
  rw [drop_at z127 h]; rfl
theorem shapesParts_at (go : List S127 → Option Int) {l : List (List S127)} {i : Nat} (h : i < l.length) : shapesParts go (l.drop i) = (go (l.getD i [])).bind fun e => if e = 0 then shapesParts go (l.drop (i + 1)) else some e := by
  rw [drop_at [] h]; rfl
theorem shapesParts_mono {go go' : List S127 → Option Int} (h : ∀ p, LeO (go p) (go' p)) : ∀ l, LeO (shapesParts go l) (shapesParts go' l)
  | [] => LeO.refl _
  | p :: t => LeO.bind (h p) (fun x => LeO.ite (shapesParts_mono h t) (LeO.refl _))
theorem shapesLoop_mono {own : S127 → Int} {go go' : List S127 → Option Int} (h : ∀ p, LeO (go p) (go' p)) : ∀ l, LeO (shapesLoop own go l) (shapesLoop own go' l)
  | [] => LeO.refl _
  | x :: t => LeO.ite (LeO.bind (shapesParts_mono h _) (fun y => LeO.ite (shapesLoop_mono h t) (LeO.refl _))) (LeO.refl _)
theorem shape_shapes.mono : ∀ a0 a1 k, LeO (shape_shapes.f k a0 a1) (shape_shapes.f (k + 1) a0 a1) := fun a0 a1 k => by
  induction k generalizing a0 a1 with
  | zero => intro r h; cases h
  | succ k ih =>
    rw [shape_shapes.f, shape_shapes.f]
    exact shapesLoop_mono (fun p => ih _ p) _
set_option maxRecDepth 100000 in
set_option maxHeartbeats 4000000 in
theorem shape_shapes.calls : ∀ (k : Nat) (a0 : Int) (A1 : Option Addr) (c1 : Nat) (l1 : List S127) (r : Int) (w : World) (hr1 : Kd.C k127 w A1 l1.length l1) (hc1 : l1.length ≤ c1) (h : shape_shapes.f k a0 l1 = some r),
    Calls Try.prog 111 #[.int .i64 a0, .slice A1 l1.length c1] w fun e w' => e = .returned (.int .i64 r) ∧ Below w.heap.size w w' := by
  intro k
  induction k with
  | zero => intro _ _ _ _ _ _ _ _ h; simp [shape_shapes.f] at h
  | succ k ih =>
    intro a0 A1 c1 l1 r w hr1 hc1 h
    have IH := Aside0.mk ih
    clear ih
    have hl := hr1.2.1
    have HR := Aside0.mk hr1
    clear hr1
    rw [shape_shapes.f] at h
    have HA := Aside0.mk h
    generalize hgo : (fun p => shape_shapes.f k a0 p) = go at HA
    have Hgo := Aside0.mk hgo
    clear h hgo
    go_enter Try.func111, Try.ntmps111
    go_wp2_with fail
    go_loopw [13] (fun i wr => ∃ j : Nat, j ≤ l1.length ∧ i = .int .i64 j ∧ Aside0 (shapesLoop (shapeOwn a0) go (l1.drop j) = some r) ∧ Aside0 (Below w.heap.size w wr)) (fun i _ => l1.length - (intOf i).toNat)
    case atStart => exact ⟨0, by omega, rfl, HA, ⟨Below.refl _ _⟩⟩
    case round =>
      obtain ⟨j, hj, rfl, HL, HB⟩ := hrel
      by_cases hjt : j < l1.length
      · obtain ⟨ad, A2, c2, A3, c3, A4, c4, e0, h0, h1, h2, h3, h4, lc2, hC2, lc3, hC3, lc4, hC4⟩ := T127_at (Kd.C_below HR.out HB.out) j hjt
        cases e0
        have hL := HL.out
        rw [shapesLoop_at _ _ hjt] at hL
        generalize l1.getD j z127 = x at h0 h1 h2 h3 h4 lc2 hC2 lc3 hC3 lc4 hC4 hL
        have L2 := hC2.2.1
        have L3 := hC3.2.1
        have L4 := hC4.2.1
        have H2 := Aside0.mk hC2
        have H3 := Aside0.mk hC3
        have H4 := Aside0.mk hC4
        have Hc2 := Aside0.mk lc2
        have Hc3 := Aside0.mk lc3
        have Hc4 := Aside0.mk lc4
        clear hC2 hC3 hC4 lc2 lc3 lc4
        by_cases ho : shapeOwn a0 x = 0
        · rw [if_pos ho] at hL
          replace HL := Aside0.mk hL
          have Ho := Aside0.mk ho
          clear ho hL
          by_cases hk : x.f0 = 1
          · have hkb : (x.f0 == 1) = true := by simp [hk]
            have hbc : blockCheck a0 [⟨x.f2, -1, -1, 0⟩] = 0 := by have h := Ho.out; unfold shapeOwn at h; rwa [if_neg (by omega), if_pos hk] at h
            have hk1 : 1 ≤ x.f0 := by omega
            have hk3 : x.f0 ≤ 3 := by omega
            have Hbc : Aside0 (block_Check.f a0 [⟨x.f2, -1, -1, 0⟩] = some 0) := ⟨by rw [block_Check.f, hbc]⟩
            clear hk hbc
            obtain ⟨wo, ho⟩ : ∃ wo : World, wo = wr := ⟨_, rfl⟩
            subst ho
            have hbl : Below wo.heap.size wo ((wo.alloc (.cells #[.int .i64 x.f0, .int .i64 x.f1, .slice A2 x.f2.length c2, .slice A3 x.f3.length c3, .slice A4 x.f4.length c4] 127)).alloc (.cells #[.slice A2 x.f2.length c2, .int .i64 (-1), .int .i64 (-1), .int .i64 0] 79)) := ((Below.refl _ _).alloc (Nat.le_refl _) _).alloc (by simp) _
            have H79 : Aside0 (Kd.C k79 ((wo.alloc (.cells #[.int .i64 x.f0, .int .i64 x.f1, .slice A2 x.f2.length c2, .slice A3 x.f3.length c3, .slice A4 x.f4.length c4] 127)).alloc (.cells #[.slice A2 x.f2.length c2, .int .i64 (-1), .int .i64 (-1), .int .i64 0] 79)) (some ⟨wo.heap.size + 1, 0, none⟩) 1 [⟨x.f2, -1, -1, 0⟩]) := ⟨one_block (b := ⟨x.f2, -1, -1, 0⟩) (by simp [go_sem]) (by simp [go_sem]) (by simp [go_sem]) (by simp [go_sem]) Hc2.out (Kd.C_below H2.out hbl)⟩
            clear hbl
            go_wp2_with fail
            refine (block_Check.calls a0 _ 1 [⟨x.f2, -1, -1, 0⟩] 0 _ H79.out (Nat.le_refl _) Hbc.out).mono ?_
            rintro e w2 ⟨rfl, hb2⟩
            have hb3 : Below (wo.heap.size + 1) (wo.alloc (.cells #[.int .i64 x.f0, .int .i64 x.f1, .slice A2 x.f2.length c2, .slice A3 x.f3.length c3, .slice A4 x.f4.length c4] 127)) w2 := ((Below.refl _ _).alloc (by simp) _).trans (hb2.mono (by simp))
            have g3 := box_cells hb3 3 rfl
            have g4 := box_cells hb3 4 rfl
            have hb4 := below_box hb3
            have HW : Aside0 (Below w.heap.size w w2) := ⟨HB.out.trans (hb4.mono HB.out.size)⟩
            have HW3 : Aside0 (k127.C w2 A3 x.f3.length x.f3) := ⟨Kd.C_below H3.out hb4⟩
            have HW4 : Aside0 (k127.C w2 A4 x.f4.length x.f4) := ⟨Kd.C_below H4.out hb4⟩
            clear hb2 hb3 hb4
            go_wp2_with fail
            go_loopw [55] (fun i w' => ∃ t : Nat, t ≤ 2 ∧ i = .int .i64 t ∧ Aside0 ((shapesParts go ([x.f3, x.f4].drop t)).bind (fun e => if e = 0 then shapesLoop (shapeOwn a0) go (l1.drop (j + 1)) else some e) = some r) ∧ Aside0 (Below (w2.heap.size + 1) ((w2).alloc (.cells #[.slice A3 x.f3.length c3, .slice A4 x.f4.length c4] 22)) w')) (fun i _ => 2 - (intOf i).toNat)
            case atStart => exact ⟨0, by omega, rfl, HL, ⟨Below.refl _ _⟩⟩
            case round =>
              clear HL h0 h1 h2 h3 h4
              obtain ⟨t, ht, rfl, HS, HB2⟩ := hrel
              have hB := HB2.out
              have hB3 : Below w.heap.size w wr := (HW.out.alloc HW.out.size _).trans (hB.mono (by have := HW.out.size; (try simp at this); omega))
              have hB4 : Below (w2).heap.size (w2) wr := ((Below.refl _ _).alloc (Nat.le_refl _) _).trans (hB.mono (by simp))
              have HB3 := Aside0.mk hB3
              by_cases ht2 : t < 2
              · have hrow : Kd.C (Kd.slice 127 k127) wr (some ⟨w2.heap.size, 0, none⟩) 2 [x.f3, x.f4] :=
                  two_rows ((hB.cell (p := ⟨w2.heap.size, 0, none⟩) (by simp)).trans (by simp [go_sem])) ((hB.cell (p := ⟨w2.heap.size, 1, none⟩) (by simp)).trans (by simp [go_sem])) Hc3.out Hc4.out (Kd.C_below HW3.out hB4) (Kd.C_below HW4.out hB4)
                obtain ⟨ad2, Ap, cp, e2, g0, lp, hCp⟩ := L7_at hrow t ht2
                simp only [Option.some.injEq] at e2
                subst e2
                rw [add_plain] at g0
                have hS := HS.out
                rw [shapesParts_at _ (by simpa using ht2), Option.bind_assoc] at hS
                generalize [x.f3, x.f4].getD t [] = p at g0 lp hCp hS
                obtain ⟨e, hp, hrest⟩ := Option.bind_eq_some_iff.1 hS
                rw [← Hgo.out] at hp
                have HP := Aside0.mk hp
                have hlp := hCp.2.1
                have HCp := Aside0.mk hCp
                have Hlp := Aside0.mk lp
                have hbb : w2.heap.size + 1 ≤ wr.heap.size := by have := hB.size; simp at this; omega
                by_cases he : e = 0
                · subst he
                  simp only [if_true] at hrest
                  have HQ := Aside0.mk hrest
                  clear hS HS hrow hrest hCp lp hB hp hB3 hB4
                  go_wp2_with (go_at_call 111; refine (IH.out _ _ _ _ _ _ HCp.out Hlp.out HP.out).mono ?_; rintro e w3 ⟨rfl, hb3⟩)
                  go_roundw
                  case rel => exact ⟨t + 1, by omega, by go_num, HQ, ⟨HB2.out.trans (hb3.mono hbb)⟩⟩
                  case measure => simp [intOf]; omega
                · simp only [if_neg he, Option.bind_some, Option.some.injEq] at hrest
                  subst hrest
                  have heb : (e != 0) = true := by simp [he]
                  clear hS HS hrow hCp lp hB hp he hB3 hB4
                  go_wp2_with (go_at_call 111; refine (IH.out _ _ _ _ _ _ HCp.out Hlp.out HP.out).mono ?_; rintro e w3 ⟨rfl, hb3⟩)
                  go_ret
                  exact ⟨rfl, HB3.out.trans (hb3.mono HB3.out.size)⟩
              · have hS := HS.out
                rw [List.drop_of_length_le (by simp; omega)] at hS
                simp only [shapesParts, Option.bind_some, if_true] at hS
                have HS' := Aside0.mk hS
                clear hS hB hB3 hB4
                go_wp2
                go_roundw
                case rel => exact ⟨j + 1, by omega, by go_num, HS', HB3⟩
                case measure => simp [intOf]; omega

          · have hkb : (x.f0 == 1) = false := by simp [hk]
            have hq : 1 ≤ x.f0 ∧ x.f0 ≤ 3 ∧ 0 ≤ x.f1 ∧ x.f1 < a0 := by have h := Ho.out; unfold shapeOwn at h; grind
            obtain ⟨k1, k3, t0, t1⟩ := hq
            clear hk
            obtain ⟨wo, ho⟩ : ∃ wo : World, wo = wr := ⟨_, rfl⟩
            subst ho
            have hb4 : Below wo.heap.size wo (wo.alloc (.cells #[.int .i64 x.f0, .int .i64 x.f1, .slice A2 x.f2.length c2, .slice A3 x.f3.length c3, .slice A4 x.f4.length c4] 127)) := (Below.refl _ _).alloc (Nat.le_refl _) _
            have HW : Aside0 (Below w.heap.size w (wo.alloc (.cells #[.int .i64 x.f0, .int .i64 x.f1, .slice A2 x.f2.length c2, .slice A3 x.f3.length c3, .slice A4 x.f4.length c4] 127))) := ⟨HB.out.alloc HB.out.size _⟩
            have HW3 : Aside0 (k127.C (wo.alloc (.cells #[.int .i64 x.f0, .int .i64 x.f1, .slice A2 x.f2.length c2, .slice A3 x.f3.length c3, .slice A4 x.f4.length c4] 127)) A3 x.f3.length x.f3) := ⟨Kd.C_below H3.out hb4⟩
            have HW4 : Aside0 (k127.C (wo.alloc (.cells #[.int .i64 x.f0, .int .i64 x.f1, .slice A2 x.f2.length c2, .slice A3 x.f3.length c3, .slice A4 x.f4.length c4] 127)) A4 x.f4.length x.f4) := ⟨Kd.C_below H4.out hb4⟩
            clear hb4
            go_wp2_with fail
            go_loopw [55] (fun i w' => ∃ t : Nat, t ≤ 2 ∧ i = .int .i64 t ∧ Aside0 ((shapesParts go ([x.f3, x.f4].drop t)).bind (fun e => if e = 0 then shapesLoop (shapeOwn a0) go (l1.drop (j + 1)) else some e) = some r) ∧ Aside0 (Below (wo.heap.size + 1 + 1) ((wo.alloc (.cells #[.int .i64 x.f0, .int .i64 x.f1, .slice A2 x.f2.length c2, .slice A3 x.f3.length c3, .slice A4 x.f4.length c4] 127)).alloc (.cells #[.slice A3 x.f3.length c3, .slice A4 x.f4.length c4] 22)) w')) (fun i _ => 2 - (intOf i).toNat)
            case atStart => exact ⟨0, by omega, rfl, HL, ⟨Below.refl _ _⟩⟩
            case round =>
              clear HL h0 h1 h2 h3 h4
              obtain ⟨t, ht, rfl, HS, HB2⟩ := hrel
              have hB := HB2.out
              have hB3 : Below w.heap.size w wr := (HW.out.alloc HW.out.size _).trans (hB.mono (by have := HW.out.size; (try simp at this); omega))
              have hB4 : Below (wo.alloc (.cells #[.int .i64 x.f0, .int .i64 x.f1, .slice A2 x.f2.length c2, .slice A3 x.f3.length c3, .slice A4 x.f4.length c4] 127)).heap.size (wo.alloc (.cells #[.int .i64 x.f0, .int .i64 x.f1, .slice A2 x.f2.length c2, .slice A3 x.f3.length c3, .slice A4 x.f4.length c4] 127)) wr := ((Below.refl _ _).alloc (Nat.le_refl _) _).trans (hB.mono (by simp))
              have HB3 := Aside0.mk hB3
              by_cases ht2 : t < 2
              · have hrow : Kd.C (Kd.slice 127 k127) wr (some ⟨wo.heap.size + 1, 0, none⟩) 2 [x.f3, x.f4] :=
                  two_rows ((hB.cell (p := ⟨wo.heap.size + 1, 0, none⟩) (by simp)).trans (by simp [go_sem])) ((hB.cell (p := ⟨wo.heap.size + 1, 1, none⟩) (by simp)).trans (by simp [go_sem])) Hc3.out Hc4.out (Kd.C_below HW3.out hB4) (Kd.C_below HW4.out hB4)
                obtain ⟨ad2, Ap, cp, e2, g0, lp, hCp⟩ := L7_at hrow t ht2
                simp only [Option.some.injEq] at e2
                subst e2
                rw [add_plain] at g0
                have hS := HS.out
                rw [shapesParts_at _ (by simpa using ht2), Option.bind_assoc] at hS
                generalize [x.f3, x.f4].getD t [] = p at g0 lp hCp hS
                obtain ⟨e, hp, hrest⟩ := Option.bind_eq_some_iff.1 hS
                rw [← Hgo.out] at hp
                have HP := Aside0.mk hp
                have hlp := hCp.2.1
                have HCp := Aside0.mk hCp
                have Hlp := Aside0.mk lp
                have hbb : wo.heap.size + 1 + 1 ≤ wr.heap.size := by have := hB.size; simp at this; omega
                by_cases he : e = 0
                · subst he
                  simp only [if_true] at hrest
                  have HQ := Aside0.mk hrest
                  clear hS HS hrow hrest hCp lp hB hp hB3 hB4
                  go_wp2_with (go_at_call 111; refine (IH.out _ _ _ _ _ _ HCp.out Hlp.out HP.out).mono ?_; rintro e w3 ⟨rfl, hb3⟩)
                  go_roundw
                  case rel => exact ⟨t + 1, by omega, by go_num, HQ, ⟨HB2.out.trans (hb3.mono hbb)⟩⟩
                  case measure => simp [intOf]; omega
                · simp only [if_neg he, Option.bind_some, Option.some.injEq] at hrest
                  subst hrest
                  have heb : (e != 0) = true := by simp [he]
                  clear hS HS hrow hCp lp hB hp he hB3 hB4
                  go_wp2_with (go_at_call 111; refine (IH.out _ _ _ _ _ _ HCp.out Hlp.out HP.out).mono ?_; rintro e w3 ⟨rfl, hb3⟩)
                  go_ret
                  exact ⟨rfl, HB3.out.trans (hb3.mono HB3.out.size)⟩
              · have hS := HS.out
                rw [List.drop_of_length_le (by simp; omega)] at hS
                simp only [shapesParts, Option.bind_some, if_true] at hS
                have HS' := Aside0.mk hS
                clear hS hB hB3 hB4
                go_wp2
                go_roundw
                case rel => exact ⟨j + 1, by omega, by go_num, HS', HB3⟩
                case measure => simp [intOf]; omega
        · rw [if_neg ho, Option.some.injEq] at hL
          have Ho := Aside0.mk hL
          have Hn := Aside0.mk ho
          clear ho hL HL
          by_cases hk : x.f0 = 1
          · have hkb : (x.f0 == 1) = true := by simp [hk]
            have hbc : blockCheck a0 [⟨x.f2, -1, -1, 0⟩] = r := by have h := Ho.out; unfold shapeOwn at h; rwa [if_neg (by omega), if_pos hk] at h
            have hne : (r != 0) = true := by have h := Hn.out; rw [Ho.out] at h; simp [h]
            have hk1 : 1 ≤ x.f0 := by omega
            have hk3 : x.f0 ≤ 3 := by omega
            have Hbc : Aside0 (block_Check.f a0 [⟨x.f2, -1, -1, 0⟩] = some r) := ⟨by rw [block_Check.f, hbc]⟩
            clear hk hbc
            have hbl : Below wr.heap.size wr ((wr.alloc (.cells #[.int .i64 x.f0, .int .i64 x.f1, .slice A2 x.f2.length c2, .slice A3 x.f3.length c3, .slice A4 x.f4.length c4] 127)).alloc (.cells #[.slice A2 x.f2.length c2, .int .i64 (-1), .int .i64 (-1), .int .i64 0] 79)) := ((Below.refl _ _).alloc (Nat.le_refl _) _).alloc (by simp) _
            have H79 : Aside0 (Kd.C k79 ((wr.alloc (.cells #[.int .i64 x.f0, .int .i64 x.f1, .slice A2 x.f2.length c2, .slice A3 x.f3.length c3, .slice A4 x.f4.length c4] 127)).alloc (.cells #[.slice A2 x.f2.length c2, .int .i64 (-1), .int .i64 (-1), .int .i64 0] 79)) (some ⟨wr.heap.size + 1, 0, none⟩) 1 [⟨x.f2, -1, -1, 0⟩]) := ⟨one_block (b := ⟨x.f2, -1, -1, 0⟩) (by simp [go_sem]) (by simp [go_sem]) (by simp [go_sem]) (by simp [go_sem]) Hc2.out (Kd.C_below H2.out hbl)⟩
            have Hbl := Aside0.mk hbl
            clear hbl
            go_wp2_with fail
            refine (block_Check.calls a0 _ 1 [⟨x.f2, -1, -1, 0⟩] r _ H79.out (Nat.le_refl _) Hbc.out).mono ?_
            rintro e w2 ⟨rfl, hb2⟩
            go_wp2_with fail
            go_ret
            exact ⟨rfl, HB.out.trans ((Hbl.out.trans (hb2.mono (by simp; omega))).mono HB.out.size)⟩
          · have hkb : (x.f0 == 1) = false := by simp [hk]
            have hfin : (x.f0 < 1 ∨ x.f0 > 3) ∧ r = 6 ∨ 1 ≤ x.f0 ∧ x.f0 ≤ 3 ∧ (x.f1 < 0 ∨ x.f1 ≥ a0) ∧ r = 2 := by
              have h := Ho.out
              have h2 := Hn.out
              unfold shapeOwn at h h2
              grind
            clear hk
            rcases hfin with ⟨q, rfl⟩ | ⟨q1, q2, q, rfl⟩
            all_goals
              go_wp2
              all_goals
                go_ret
                refine ⟨ret_int ?_, HB.out.alloc HB.out.size _⟩
                omega
      · have hL := HL.out
        rw [List.drop_of_length_le (by omega)] at hL
        simp only [shapesLoop, Option.some.injEq] at hL
        subst hL
        go_wp2
        go_ret
        exact ⟨rfl, HB.out⟩
end Go.Proofs.Ytaicamjpcnhjcaa.PA
namespace Go.Proofs.Ytaicamjpcnhjcaa.PA
open Go.RowKit Go.Proofs.YtaicamjpcnhjcaaW.PrintWords Go.Proofs.YtaicamjpcnhjcaaW.PrintLast Go.Proofs.YtaicamjpcnhjcaaW.PrintMore
set_option linter.unusedVariables false
set_option linter.unusedSimpArgs false
def shape_Check.f (k : Nat) (a0 : Int) (l1 : List (S127)) : Option (Int) := (shape_size.f k l1 1).bind fun bt101 => (if a0 < 1 then (some 1) else (if a0 > 6 then (some 1) else (if bt101.1 > 8 then (some 1) else (if bt101.2.1 > 20 then (some 1) else (if bt101.2.2 > 5 then (some 1) else ((shape_shapes.f k a0 l1).bind fun t104 => (some t104)))))))
theorem shape_Check.mono : ∀ a0 a1 k, LeO (shape_Check.f k a0 a1) (shape_Check.f (k + 1) a0 a1) := by
  intro a0 a1 k
  unfold shape_Check.f
  repeat' first
      | (with_reducible exact shape_shapes.mono _ _ _)
      | (with_reducible exact shape_size.mono _ _ _)
      | (with_reducible exact LeO.refl _)
      | (with_reducible exact LeO.none _)
      | (with_reducible refine LeO.ite ?_ ?_)
      | (with_reducible refine LeO.bind ?_ (fun _ => ?_))
      | exact shape_shapes.mono _ _ _
      | exact shape_size.mono _ _ _
      | exact LeO.none _
      | refine LeO.ite ?_ ?_
      | refine LeO.bind ?_ (fun _ => ?_)
set_option maxHeartbeats 8000000 in
set_option maxRecDepth 100000 in
theorem shape_Check.calls (k : Nat) (a0 : Int) (A1 : Option Addr) (c1 : Nat) (l1 : List (S127)) (r : Int) (w : World) (hr1 : Kd.C k127 w A1 l1.length l1) (hc1 : l1.length ≤ c1) (h : shape_Check.f k a0 l1 = some r) :
    Calls Try.prog 49 #[.int .i64 a0, .slice A1 l1.length c1] w fun e w' => e = .returned (.int .i64 r) ∧ Below w.heap.size w w' := by
  have HR1 := Aside0.mk hr1
  have HC1 := Aside0.mk hc1
  clear hr1 hc1
  have HB := Aside0.mk (Below.refl w.heap.size w)
  have H : ((shape_size.f k l1 1).bind fun bt101 => (if a0 < 1 then (some 1) else (if a0 > 6 then (some 1) else (if bt101.1 > 8 then (some 1) else (if bt101.2.1 > 20 then (some 1) else (if bt101.2.2 > 5 then (some 1) else ((shape_shapes.f k a0 l1).bind fun t104 => (some t104)))))))) = some r := h
  clear h
  replace H := Option.bind_eq_some_iff.mp H
  obtain ⟨⟨t101, t102, t103⟩, A30, H⟩ := H
  replace H : (if a0 < 1 then (some 1) else (if a0 > 6 then (some 1) else (if t101 > 8 then (some 1) else (if t102 > 20 then (some 1) else (if t103 > 5 then (some 1) else ((shape_shapes.f k a0 l1).bind fun t104 => (some t104))))))) = some r := H
  have A3 := Aside0.mk A30
  clear A30
  by_cases c4 : a0 < 1
  · rw [if_pos c4] at H
    have c4b0 : decide (a0 < 1) = true := decide_eq_true c4
    clear c4
    obtain rfl := Option.some.inj H
    go_enter Try.func49, Try.ntmps49
    go_wp2_with (first | ((with_reducible refine gate_callee (f := 110) rfl ?_); refine goesL_ (some 10) rfl rfl Try.func110 (by kernel_rfl) rfl #[.slice A1 l1.length c1, .int .i64 1] rfl (by (try simp only [List.map_toArray, List.map_cons, List.map_nil]); first | done | rfl | (simp only [List.length_drop, List.length_take]; rfl)) ?_; (with_reducible refine (shape_size.calls k _ _ l1 1 t101 t102 t103 _ ?side1 ?side2 A3.out).mono ?_); (case side1 => repeat (first | exact HR1.out | (with_reducible refine Kd.C_alloc ?_ _) | (with_reducible refine Kd.C_drewN ?_ _) | (with_reducible refine Kd.C_drew ?_))); (case side2 => exact HC1.out); rintro e w5 ⟨rfl, hb⟩; refine ⟨_, rfl, ?_⟩; have n0_ := Aside0.mk (below_step (by repeat (first | (with_reducible first | exact HB.out | apply below_alloc | apply pw_below_drewN | apply below_drew1) | exact HB.out)) hb); clear HB; have HB := n0_; clear n0_; (try clear hb); (try clear hb2); (try clear hk); (try clear hi)))
    go_ret
    exact ⟨by first | rfl | (simp [errW_none, errW_some] <;> rfl) | (simp [*, errW_none, errW_some] <;> rfl), by repeat (first | (with_reducible first | exact HB.out | apply below_alloc | apply pw_below_drewN | apply below_drew1) | exact HB.out)⟩
  · rw [if_neg c4] at H
    have c4b0 : decide (a0 < 1) = false := decide_eq_false c4
    clear c4
    by_cases c6 : a0 > 6
    · rw [if_pos c6] at H
      have c6b0 : decide (6 < a0) = true := decide_eq_true c6
      clear c6
      obtain rfl := Option.some.inj H
      go_enter Try.func49, Try.ntmps49
      go_wp2_with (first | ((with_reducible refine gate_callee (f := 110) rfl ?_); refine goesL_ (some 10) rfl rfl Try.func110 (by kernel_rfl) rfl #[.slice A1 l1.length c1, .int .i64 1] rfl (by (try simp only [List.map_toArray, List.map_cons, List.map_nil]); first | done | rfl | (simp only [List.length_drop, List.length_take]; rfl)) ?_; (with_reducible refine (shape_size.calls k _ _ l1 1 t101 t102 t103 _ ?side1 ?side2 A3.out).mono ?_); (case side1 => repeat (first | exact HR1.out | (with_reducible refine Kd.C_alloc ?_ _) | (with_reducible refine Kd.C_drewN ?_ _) | (with_reducible refine Kd.C_drew ?_))); (case side2 => exact HC1.out); rintro e w7 ⟨rfl, hb⟩; refine ⟨_, rfl, ?_⟩; have n0_ := Aside0.mk (below_step (by repeat (first | (with_reducible first | exact HB.out | apply below_alloc | apply pw_below_drewN | apply below_drew1) | exact HB.out)) hb); clear HB; have HB := n0_; clear n0_; (try clear hb); (try clear hb2); (try clear hk); (try clear hi)))
      go_ret
      exact ⟨by first | rfl | (simp [errW_none, errW_some] <;> rfl) | (simp [*, errW_none, errW_some] <;> rfl), by repeat (first | (with_reducible first | exact HB.out | apply below_alloc | apply pw_below_drewN | apply below_drew1) | exact HB.out)⟩
    · rw [if_neg c6] at H
      have c6b0 : decide (6 < a0) = false := decide_eq_false c6
      clear c6
      by_cases c8 : t101 > 8
      · rw [if_pos c8] at H
        have c8b0 : decide (8 < t101) = true := decide_eq_true c8
        clear c8
        obtain rfl := Option.some.inj H
        go_enter Try.func49, Try.ntmps49
        go_wp2_with (first | ((with_reducible refine gate_callee (f := 110) rfl ?_); refine goesL_ (some 10) rfl rfl Try.func110 (by kernel_rfl) rfl #[.slice A1 l1.length c1, .int .i64 1] rfl (by (try simp only [List.map_toArray, List.map_cons, List.map_nil]); first | done | rfl | (simp only [List.length_drop, List.length_take]; rfl)) ?_; (with_reducible refine (shape_size.calls k _ _ l1 1 t101 t102 t103 _ ?side1 ?side2 A3.out).mono ?_); (case side1 => repeat (first | exact HR1.out | (with_reducible refine Kd.C_alloc ?_ _) | (with_reducible refine Kd.C_drewN ?_ _) | (with_reducible refine Kd.C_drew ?_))); (case side2 => exact HC1.out); rintro e w9 ⟨rfl, hb⟩; refine ⟨_, rfl, ?_⟩; have n0_ := Aside0.mk (below_step (by repeat (first | (with_reducible first | exact HB.out | apply below_alloc | apply pw_below_drewN | apply below_drew1) | exact HB.out)) hb); clear HB; have HB := n0_; clear n0_; (try clear hb); (try clear hb2); (try clear hk); (try clear hi)))
        go_ret
        exact ⟨by first | rfl | (simp [errW_none, errW_some] <;> rfl) | (simp [*, errW_none, errW_some] <;> rfl), by repeat (first | (with_reducible first | exact HB.out | apply below_alloc | apply pw_below_drewN | apply below_drew1) | exact HB.out)⟩
      · rw [if_neg c8] at H
        have c8b0 : decide (8 < t101) = false := decide_eq_false c8
        clear c8
        by_cases c10 : t102 > 20
        · rw [if_pos c10] at H
          have c10b0 : decide (20 < t102) = true := decide_eq_true c10
          clear c10
          obtain rfl := Option.some.inj H
          go_enter Try.func49, Try.ntmps49
          go_wp2_with (first | ((with_reducible refine gate_callee (f := 110) rfl ?_); refine goesL_ (some 10) rfl rfl Try.func110 (by kernel_rfl) rfl #[.slice A1 l1.length c1, .int .i64 1] rfl (by (try simp only [List.map_toArray, List.map_cons, List.map_nil]); first | done | rfl | (simp only [List.length_drop, List.length_take]; rfl)) ?_; (with_reducible refine (shape_size.calls k _ _ l1 1 t101 t102 t103 _ ?side1 ?side2 A3.out).mono ?_); (case side1 => repeat (first | exact HR1.out | (with_reducible refine Kd.C_alloc ?_ _) | (with_reducible refine Kd.C_drewN ?_ _) | (with_reducible refine Kd.C_drew ?_))); (case side2 => exact HC1.out); rintro e w11 ⟨rfl, hb⟩; refine ⟨_, rfl, ?_⟩; have n0_ := Aside0.mk (below_step (by repeat (first | (with_reducible first | exact HB.out | apply below_alloc | apply pw_below_drewN | apply below_drew1) | exact HB.out)) hb); clear HB; have HB := n0_; clear n0_; (try clear hb); (try clear hb2); (try clear hk); (try clear hi)))
          go_ret
          exact ⟨by first | rfl | (simp [errW_none, errW_some] <;> rfl) | (simp [*, errW_none, errW_some] <;> rfl), by repeat (first | (with_reducible first | exact HB.out | apply below_alloc | apply pw_below_drewN | apply below_drew1) | exact HB.out)⟩
        · rw [if_neg c10] at H
          have c10b0 : decide (20 < t102) = false := decide_eq_false c10
          clear c10
          by_cases c12 : t103 > 5
          · rw [if_pos c12] at H
            have c12b0 : decide (5 < t103) = true := decide_eq_true c12
            clear c12
            obtain rfl := Option.some.inj H
            go_enter Try.func49, Try.ntmps49
            go_wp2_with (first | ((with_reducible refine gate_callee (f := 110) rfl ?_); refine goesL_ (some 10) rfl rfl Try.func110 (by kernel_rfl) rfl #[.slice A1 l1.length c1, .int .i64 1] rfl (by (try simp only [List.map_toArray, List.map_cons, List.map_nil]); first | done | rfl | (simp only [List.length_drop, List.length_take]; rfl)) ?_; (with_reducible refine (shape_size.calls k _ _ l1 1 t101 t102 t103 _ ?side1 ?side2 A3.out).mono ?_); (case side1 => repeat (first | exact HR1.out | (with_reducible refine Kd.C_alloc ?_ _) | (with_reducible refine Kd.C_drewN ?_ _) | (with_reducible refine Kd.C_drew ?_))); (case side2 => exact HC1.out); rintro e w13 ⟨rfl, hb⟩; refine ⟨_, rfl, ?_⟩; have n0_ := Aside0.mk (below_step (by repeat (first | (with_reducible first | exact HB.out | apply below_alloc | apply pw_below_drewN | apply below_drew1) | exact HB.out)) hb); clear HB; have HB := n0_; clear n0_; (try clear hb); (try clear hb2); (try clear hk); (try clear hi)))
            go_ret
            exact ⟨by first | rfl | (simp [errW_none, errW_some] <;> rfl) | (simp [*, errW_none, errW_some] <;> rfl), by repeat (first | (with_reducible first | exact HB.out | apply below_alloc | apply pw_below_drewN | apply below_drew1) | exact HB.out)⟩
          · rw [if_neg c12] at H
            have c12b0 : decide (5 < t103) = false := decide_eq_false c12
            clear c12
            replace H := Option.bind_eq_some_iff.mp H
            obtain ⟨t104, A140, H⟩ := H
            replace H : (some t104) = some r := H
            have A14 := Aside0.mk A140
            clear A140
            obtain rfl := Option.some.inj H
            go_enter Try.func49, Try.ntmps49
            go_wp2_with (first | ((with_reducible refine gate_callee (f := 110) rfl ?_); refine goesL_ (some 10) rfl rfl Try.func110 (by kernel_rfl) rfl #[.slice A1 l1.length c1, .int .i64 1] rfl (by (try simp only [List.map_toArray, List.map_cons, List.map_nil]); first | done | rfl | (simp only [List.length_drop, List.length_take]; rfl)) ?_; (with_reducible refine (shape_size.calls k _ _ l1 1 t101 t102 t103 _ ?side1 ?side2 A3.out).mono ?_); (case side1 => repeat (first | exact HR1.out | (with_reducible refine Kd.C_alloc ?_ _) | (with_reducible refine Kd.C_drewN ?_ _) | (with_reducible refine Kd.C_drew ?_))); (case side2 => exact HC1.out); rintro e w15 ⟨rfl, hb⟩; refine ⟨_, rfl, ?_⟩; have n0_ := Aside0.mk (below_step (by repeat (first | (with_reducible first | exact HB.out | apply below_alloc | apply pw_below_drewN | apply below_drew1) | exact HB.out)) hb); clear HB; have HB := n0_; clear n0_; (try clear hb); (try clear hb2); (try clear hk); (try clear hi)) | ((with_reducible refine gate_callee (f := 111) rfl ?_); refine goesL_ (some 34) rfl rfl Try.func111 (by kernel_rfl) rfl #[.int .i64 a0, .slice A1 l1.length c1] rfl (by (try simp only [List.map_toArray, List.map_cons, List.map_nil]); first | done | rfl | (simp only [List.length_drop, List.length_take]; rfl)) ?_; (with_reducible refine (shape_shapes.calls k a0 _ _ l1 t104 _ ?side1 ?side2 A14.out).mono ?_); (case side1 => repeat (first | exact (Kd.C_below HR1.out HB.out) | (with_reducible refine Kd.C_alloc ?_ _) | (with_reducible refine Kd.C_drewN ?_ _) | (with_reducible refine Kd.C_drew ?_))); (case side2 => exact HC1.out); rintro e w16 ⟨rfl, hb⟩; refine ⟨_, rfl, ?_⟩; have n0_ := Aside0.mk (below_step (by repeat (first | (with_reducible first | exact HB.out | apply below_alloc | apply pw_below_drewN | apply below_drew1) | exact HB.out)) hb); clear HB; have HB := n0_; clear n0_; (try clear hb); (try clear hb2); (try clear hk); (try clear hi)))
            go_ret
            exact ⟨by first | rfl | (simp [errW_none, errW_some] <;> rfl) | (simp [*, errW_none, errW_some] <;> rfl), by repeat (first | (with_reducible first | exact HB.out | apply below_alloc | apply pw_below_drewN | apply below_drew1) | exact HB.out)⟩
end Go.Proofs.Ytaicamjpcnhjcaa.PA
namespace Go.Proofs.Ytaicamjpcnhjcaa.PA
open Go.RowKit Go.Proofs.YtaicamjpcnhjcaaW.PrintWords Go.Proofs.YtaicamjpcnhjcaaW.PrintLast Go.Proofs.YtaicamjpcnhjcaaW.PrintMore
set_option linter.unusedVariables false
set_option linter.unusedSimpArgs false
def have1P (x : Int) : Bool := decide (x < 0) || decide (x > 255)
set_option maxHeartbeats 400000 in
theorem have1_lit (x : Int) (w : World) : Calls Try.prog 139 #[.int .i64 x] w fun e w' => e = .returned (.bool (have1P x)) ∧ w = w' := by
  unfold have1P
  by_cases h : x < 0
  all_goals
    go_enter Try.func139, Try.ntmps139
    go_wp2
    go_ret
    exact ⟨ret_bool (by simp [h] <;> omega), rfl⟩
def have1Ix : Nat → List Int → Int
  | _, [] => -1
  | i, x :: t => if have1P x = true then i else have1Ix (i + 1) t
theorem have1Ix_at {l : List Int} {j : Nat} (h : j < l.length) : have1Ix j (l.drop j) = if have1P (l.getD j 0) = true then (j : Int) else have1Ix (j + 1) (l.drop (j + 1)) := by
  rw [drop_at 0 h]; rfl
theorem have1Ix_any : ∀ (i : Nat) (l : List Int), decide (have1Ix i l ≥ 0) = l.any have1P
  | i, [] => by simp [have1Ix]
  | i, x :: t => by
    rw [show have1Ix i (x :: t) = if have1P x = true then (i : Int) else have1Ix (i + 1) t from rfl, List.any_cons]
    by_cases h : have1P x = true
    · rw [if_pos h, h]; simp
    · rw [if_neg h, have1Ix_any (i + 1) t]
      rw [Bool.not_eq_true] at h
      rw [h, Bool.false_or]
set_option maxRecDepth 100000 in
set_option maxHeartbeats 1000000 in
theorem have1_index (A : Option Addr) (c : Nat) (l : List Int) (w : World) (hr : Kd.C (Kd.int .i64) w A l.length l) (hc : l.length ≤ c) :
    Calls Try.prog 170 #[.slice A l.length c, .func (.func 139) #[] #[]] w fun e w' => e = .returned (.int .i64 (have1Ix 0 l)) ∧ w = w' := by
  obtain ⟨r, hx⟩ : ∃ r, have1Ix 0 l = r := ⟨_, rfl⟩
  rw [hx]
  have HX : Aside0 (have1Ix 0 (l.drop 0) = r) := ⟨hx⟩
  have HR := Aside0.mk hr
  have hl := hr.2.1
  clear hx hr
  go_enter Try.func170, Try.ntmps170
  go_wp2_with fail
  go_loop [8] (fun i => ∃ j : Nat, j ≤ l.length ∧ i = .int .i64 j ∧ Aside0 (have1Ix j (l.drop j) = r)) (fun i => l.length - (intOf i).toNat)
  case atStart => exact ⟨0, by omega, rfl, HX⟩
  case round =>
    clear HX
    obtain ⟨j, hj, rfl, HX⟩ := hrel
    by_cases hjt : j < l.length
    · obtain ⟨ad, e0, h0⟩ := int_at HR.out j hjt
      cases e0
      have hX := HX.out
      rw [have1Ix_at hjt] at hX
      generalize l.getD j 0 = x at h0 hX
      by_cases hp : have1P x = true
      · rw [if_pos hp] at hX
        subst hX
        clear HX
        go_wp2_with (go_at_call 139; refine (have1_lit _ _).mono ?_; rintro e w2 ⟨rfl, rfl⟩)
        go_ret
        exact ⟨rfl, rfl⟩
      · rw [if_neg hp] at hX
        rw [Bool.not_eq_true] at hp
        have HX' := Aside0.mk hX
        clear hX HX
        go_wp2_with (go_at_call 139; refine (have1_lit _ _).mono ?_; rintro e w2 ⟨rfl, rfl⟩)
        go_round
        case rel => exact ⟨j + 1, by omega, by go_num, HX'⟩
        case measure => simp [intOf]; omega
    · have hX := HX.out
      rw [List.drop_of_length_le (by omega), have1Ix] at hX
      subst hX
      clear HX
      go_wp2
      go_ret
      exact ⟨rfl, rfl⟩
set_option maxHeartbeats 1000000 in
theorem have1_contains (A : Option Addr) (c : Nat) (l : List Int) (w : World) (hr : Kd.C (Kd.int .i64) w A l.length l) (hc : l.length ≤ c) :
    Calls Try.prog 138 #[.slice A l.length c, .func (.func 139) #[] #[]] w fun e w' => e = .returned (.bool (l.any have1P)) ∧ w = w' := by
  have HR := Aside0.mk hr
  have hq := have1Ix_any 0 l
  obtain ⟨z, hz⟩ : ∃ z, have1Ix 0 l = z := ⟨_, rfl⟩
  rw [hz] at hq
  have HQ := Aside0.mk hq
  have HC : ∀ w2 : World, Kd.C (Kd.int .i64) w2 A l.length l → Calls Try.prog 170 #[.slice A l.length c, .func (.func 139) #[] #[]] w2 fun e w' => e = .returned (.int .i64 z) ∧ w2 = w' := fun w2 h => by rw [← hz]; exact have1_index A c l w2 h hc
  have HC := Aside0.mk HC
  clear hz hq hr
  go_enter Try.func138, Try.ntmps138
  go_wp2_with (go_at_call 170; refine (HC.out _ HR.out).mono ?_; rintro e w2 ⟨rfl, rfl⟩)
  go_ret
  exact ⟨ret_bool HQ.out, rfl⟩
end Go.Proofs.Ytaicamjpcnhjcaa.PA
namespace Go.Proofs.Ytaicamjpcnhjcaa.PA
open Go.RowKit Go.Proofs.YtaicamjpcnhjcaaW.PrintWords Go.Proofs.YtaicamjpcnhjcaaW.PrintLast Go.Proofs.YtaicamjpcnhjcaaW.PrintMore
set_option linter.unusedVariables false
set_option linter.unusedSimpArgs false
def term_Have.f (a0 : Int) (l1 : List Int) : Option Int := some (if (l1.length : Int) ≠ a0 then 3 else if (l1.all fun x => decide (0 ≤ x ∧ x ≤ 255)) = true then 0 else 4)
theorem have1_any (l : List Int) : (l.any have1P) = !(l.all fun x => decide (0 ≤ x ∧ x ≤ 255)) := by
  rw [List.not_all_eq_any_not]
  congr 1
  funext x
  unfold have1P
  by_cases h : 0 ≤ x ∧ x ≤ 255
  · simp [h]
  · simp [h]; omega
set_option maxHeartbeats 1000000 in
theorem term_Have.calls (a0 : Int) (A1 : Option Addr) (c1 : Nat) (l1 : List Int) (r : Int) (w : World) (hr1 : Kd.C (Kd.int .i64) w A1 l1.length l1) (hc1 : l1.length ≤ c1) (h : term_Have.f a0 l1 = some r) :
    Calls Try.prog 69 #[.int .i64 a0, .slice A1 l1.length c1] w fun e w' => e = .returned (.int .i64 r) ∧ Below w.heap.size w w' := by
  unfold term_Have.f at h
  have hq := have1_any l1
  have HR := Aside0.mk hr1
  clear hr1
  by_cases hl : (l1.length : Int) ≠ a0
  · rw [if_pos hl] at h
    obtain rfl : 3 = r := Option.some.inj h
    have hlb : ((l1.length : Int) != a0) = true := by rw [bne_iff_ne]; exact hl
    clear hl h hq
    go_enter Try.func69, Try.ntmps69
    go_wp2
    go_ret
    exact ⟨rfl, Below.refl _ _⟩
  · rw [if_neg hl] at h
    have hlb : ((l1.length : Int) != a0) = false := by rw [bne_eq_false_iff_eq]; exact Decidable.of_not_not hl
    by_cases ha : (l1.all fun x => decide (0 ≤ x ∧ x ≤ 255)) = true
    · rw [if_pos ha] at h
      obtain rfl : 0 = r := Option.some.inj h
      have HC := Aside0.mk (fun w2 h => by have := have1_contains A1 c1 l1 w2 h hc1; rw [hq, ha] at this; exact this : ∀ w2 : World, Kd.C (Kd.int .i64) w2 A1 l1.length l1 → Calls Try.prog 138 #[.slice A1 l1.length c1, .func (.func 139) #[] #[]] w2 fun e w' => e = .returned (.bool (!true)) ∧ w2 = w')
      clear hl h hq ha
      go_enter Try.func69, Try.ntmps69
      go_wp2_with (go_at_call 138; refine (HC.out _ HR.out).mono ?_; rintro e w2 ⟨rfl, rfl⟩)
      go_ret
      exact ⟨rfl, Below.refl _ _⟩
    · rw [if_neg ha] at h
      obtain rfl : 4 = r := Option.some.inj h
      rw [Bool.not_eq_true] at ha
      have HC := Aside0.mk (fun w2 h => by have := have1_contains A1 c1 l1 w2 h hc1; rw [hq, ha] at this; exact this : ∀ w2 : World, Kd.C (Kd.int .i64) w2 A1 l1.length l1 → Calls Try.prog 138 #[.slice A1 l1.length c1, .func (.func 139) #[] #[]] w2 fun e w' => e = .returned (.bool (!false)) ∧ w2 = w')
      clear hl h hq ha
      go_enter Try.func69, Try.ntmps69
      go_wp2_with (go_at_call 138; refine (HC.out _ HR.out).mono ?_; rintro e w2 ⟨rfl, rfl⟩)
      go_ret
      exact ⟨rfl, Below.refl _ _⟩
end Go.Proofs.Ytaicamjpcnhjcaa.PA
namespace Go.Proofs.Ytaicamjpcnhjcaa.PA
open Go.RowKit Go.Proofs.YtaicamjpcnhjcaaW.PrintWords Go.Proofs.YtaicamjpcnhjcaaW.PrintLast Go.Proofs.YtaicamjpcnhjcaaW.PrintMore
set_option linter.unusedVariables false
set_option linter.unusedSimpArgs false
def term_Do.f (a0 : Int) (a1 : Int) (a2 : Int) : Option (Int) := if a0 = 3 then (some (Go.bits .and .i64 (wrap64 (a1 + a2)) 255)) else (if a0 = 4 then (some (Go.bits .and .i64 (wrap64 (a1 - a2)) 255)) else (if a0 = 5 then (some (Go.bits .and .i64 (wrap64 (a1 * a2)) 255)) else (if a1 < a2 then (some 1) else (some 0))))
set_option maxHeartbeats 8000000 in
set_option maxRecDepth 100000 in
theorem term_Do.calls (a0 : Int) (a1 : Int) (a2 : Int) (r : Int) (w : World) (h : term_Do.f a0 a1 a2 = some r) :
    Calls Try.prog 79 #[.int .i64 a0, .int .i64 a1, .int .i64 a2] w fun e w' => e = .returned (.int .i64 r) ∧ Drawn0 w w' := by
  have H : (if a0 = 3 then (some (Go.bits .and .i64 (wrap64 (a1 + a2)) 255)) else (if a0 = 4 then (some (Go.bits .and .i64 (wrap64 (a1 - a2)) 255)) else (if a0 = 5 then (some (Go.bits .and .i64 (wrap64 (a1 * a2)) 255)) else (if a1 < a2 then (some 1) else (some 0))))) = some r := h
  clear h
  by_cases c4 : a0 = 3
  · rw [if_pos c4] at H
    have c4b0 : (a0 == 3) = true := beq_iff_eq.mpr c4
    have c4b1 : (a0 != 3) = false := bne_eq_false_iff_eq.mpr c4
    clear c4
    obtain rfl := Option.some.inj H
    go_enter Try.func79, Try.ntmps79
    go_wp2
    go_ret
    exact ⟨by first | rfl | (simp; done) | (simp [*]; done), by repeat (first | exact Drawn0.refl _ | apply Drawn0.step)⟩
  · rw [if_neg c4] at H
    have c4b0 : (a0 == 3) = false := beq_eq_false_iff_ne.mpr c4
    have c4b1 : (a0 != 3) = true := bne_iff_ne.mpr c4
    by_cases c5 : a0 = 4
    · rw [if_pos c5] at H
      have c5b0 : (a0 == 4) = true := beq_iff_eq.mpr c5
      have c5b1 : (a0 != 4) = false := bne_eq_false_iff_eq.mpr c5
      clear c5
      obtain rfl := Option.some.inj H
      go_enter Try.func79, Try.ntmps79
      go_wp2
      go_ret
      exact ⟨by first | rfl | (simp; done) | (simp [*]; done), by repeat (first | exact Drawn0.refl _ | apply Drawn0.step)⟩
    · rw [if_neg c5] at H
      have c5b0 : (a0 == 4) = false := beq_eq_false_iff_ne.mpr c5
      have c5b1 : (a0 != 4) = true := bne_iff_ne.mpr c5
      by_cases c6 : a0 = 5
      · rw [if_pos c6] at H
        have c6b0 : (a0 == 5) = true := beq_iff_eq.mpr c6
        have c6b1 : (a0 != 5) = false := bne_eq_false_iff_eq.mpr c6
        clear c6
        obtain rfl := Option.some.inj H
        go_enter Try.func79, Try.ntmps79
        go_wp2
        go_ret
        exact ⟨by first | rfl | (simp; done) | (simp [*]; done), by repeat (first | exact Drawn0.refl _ | apply Drawn0.step)⟩
      · rw [if_neg c6] at H
        have c6b0 : (a0 == 5) = false := beq_eq_false_iff_ne.mpr c6
        have c6b1 : (a0 != 5) = true := bne_iff_ne.mpr c6
        by_cases c7 : a1 < a2
        · rw [if_pos c7] at H
          have c7b0 : decide (a1 < a2) = true := decide_eq_true c7
          clear c7
          obtain rfl := Option.some.inj H
          go_enter Try.func79, Try.ntmps79
          go_wp2
          go_ret
          exact ⟨by first | rfl | (simp; done) | (simp [*]; done), by repeat (first | exact Drawn0.refl _ | apply Drawn0.step)⟩
        · rw [if_neg c7] at H
          have c7b0 : decide (a1 < a2) = false := decide_eq_false c7
          clear c7
          obtain rfl := Option.some.inj H
          go_enter Try.func79, Try.ntmps79
          go_wp2
          go_ret
          exact ⟨by first | rfl | (simp; done) | (simp [*]; done), by repeat (first | exact Drawn0.refl _ | apply Drawn0.step)⟩
end Go.Proofs.Ytaicamjpcnhjcaa.PA
namespace Go.Proofs.Ytaicamjpcnhjcaa.PA
open Go.RowKit Go.Proofs.YtaicamjpcnhjcaaW.PrintWords Go.Proofs.YtaicamjpcnhjcaaW.PrintLast Go.Proofs.YtaicamjpcnhjcaaW.PrintMore
set_option linter.unusedVariables false
set_option linter.unusedSimpArgs false
def block_Do.l0 : Nat → List Int → List (S111) → Int → Int → Option (List Int)
  | 0, _, _, _, _ => none
  | k + 1, x1, x6, x7, x8 => if x8 < x7 then (if 0 ≤ x8 then (if x8 < (x6.length : Int) then (if ((rd_T111 x6 x8).f0) = 1 then (if 0 ≤ ((rd_T111 x6 x8).f1) then (if ((rd_T111 x6 x8).f1) < (x1.length : Int) then (block_Do.l0 k (x1.set (((rd_T111 x6 x8).f1) : Int).toNat ((rd_T111 x6 x8).f4)) x6 x7 (wrap64 (x8 + 1))) else (none)) else (none)) else (if ((rd_T111 x6 x8).f0) = 2 then (if 0 ≤ ((rd_T111 x6 x8).f4) then (if ((rd_T111 x6 x8).f4) < (x1.length : Int) then (if 0 ≤ ((rd_T111 x6 x8).f1) then (if ((rd_T111 x6 x8).f1) < (x1.length : Int) then (block_Do.l0 k (x1.set (((rd_T111 x6 x8).f1) : Int).toNat (rd x1 ((rd_T111 x6 x8).f4))) x6 x7 (wrap64 (x8 + 1))) else (none)) else (none)) else (none)) else (none)) else (if 0 ≤ ((rd_T111 x6 x8).f2) then (if ((rd_T111 x6 x8).f2) < (x1.length : Int) then (if 0 ≤ ((rd_T111 x6 x8).f3) then (if ((rd_T111 x6 x8).f3) < (x1.length : Int) then ((term_Do.f ((rd_T111 x6 x8).f0) (rd x1 ((rd_T111 x6 x8).f2)) (rd x1 ((rd_T111 x6 x8).f3))).bind fun t121 => (if 0 ≤ ((rd_T111 x6 x8).f1) then (if ((rd_T111 x6 x8).f1) < (x1.length : Int) then (block_Do.l0 k (x1.set (((rd_T111 x6 x8).f1) : Int).toNat t121) x6 x7 (wrap64 (x8 + 1))) else (none)) else (none))) else (none)) else (none)) else (none)) else (none)))) else (none)) else (none)) else (some x1)
def block_Do.f (k : Nat) (l0 : List (S111)) (l1 : List Int) : Option (List Int) := block_Do.l0 k l1 l0 (l0.length : Int) 0
theorem block_Do.mono_l : ∀ k, (∀ y0 y1 y2 y3, LeO (block_Do.l0 k y0 y1 y2 y3) (block_Do.l0 (k + 1) y0 y1 y2 y3))
  | 0 => fun _ _ _ _ r h => by simp [block_Do.l0] at h
  | k + 1 => by
    have ih0 := block_Do.mono_l k
    · intro y0 y1 y2 y3
      unfold block_Do.l0
      repeat' first
      | (with_reducible exact ih0 _ _ _ _)
      | (with_reducible exact LeO.refl _)
      | (with_reducible exact LeO.none _)
      | (with_reducible refine LeO.ite ?_ ?_)
      | (with_reducible refine LeO.bind ?_ (fun _ => ?_))
      | exact ih0 _ _ _ _
      | exact LeO.none _
      | refine LeO.ite ?_ ?_
      | refine LeO.bind ?_ (fun _ => ?_)
theorem block_Do.mono : ∀ a0 a1 k, LeO (block_Do.f k a0 a1) (block_Do.f (k + 1) a0 a1) := by
  intro a0 a1 k
  have ih0 := block_Do.mono_l k
  unfold block_Do.f
  repeat' first
      | (with_reducible exact ih0 _ _ _ _)
      | (with_reducible exact LeO.refl _)
      | (with_reducible exact LeO.none _)
      | (with_reducible refine LeO.ite ?_ ?_)
      | (with_reducible refine LeO.bind ?_ (fun _ => ?_))
      | exact ih0 _ _ _ _
      | exact LeO.none _
      | refine LeO.ite ?_ ?_
      | refine LeO.bind ?_ (fun _ => ?_)
def block_Do.T4 : Bool × List (List Nat × List Nat) := (true, [([], []), ([], []), ([1], [1]), ([], []), ([3], [3]), ([], []), ([], []), ([6], [6]), ([5, 7], [5, 7]), ([8], [8]), ([], []), ([], []), ([11], [11]), ([10, 12], [10, 12]), ([13], [13]), ([4, 9, 14], [4, 9, 14]), ([0, 2, 0, 1, 2, 3, 4, 5, 6, 7, 8, 9, 10, 11, 12, 13, 14, 15], [0, 2]), ([16, 15, 15, 0, 1, 2, 3, 4, 5, 6, 7, 8, 9, 10, 11, 12, 13, 14, 15], [15, 16])])
def block_Do.B4 : List Nat := [0, 0, 2, 0, 8, 0, 0, 64, 224, 480, 0, 0, 2048, 7168, 15360, 32760, 65535, 131071]
theorem block_Do.tab4 : rtab .any (opsOf Try.f77 4) = block_Do.T4 := by kernel_rfl
theorem block_Do.bits4 : waitsOk block_Do.T4.2 block_Do.B4 = true := by kernel_rfl
def block_Do.T8 : Bool × List (List Nat × List Nat) := (true, [([], []), ([], []), ([1], [1]), ([], []), ([], []), ([4], [4]), ([3, 5], [3, 5]), ([6], [6]), ([0, 2, 0, 1, 2, 3, 4, 5, 6, 7], [0, 2]), ([8, 7, 0, 1, 2, 3, 4, 5, 6, 7], [7, 8])])
def block_Do.B8 : List Nat := [0, 0, 2, 0, 0, 16, 56, 120, 255, 511]
theorem block_Do.tab8 : rtab .any (opsOf Try.f77 8) = block_Do.T8 := by kernel_rfl
theorem block_Do.bits8 : waitsOk block_Do.T8.2 block_Do.B8 = true := by kernel_rfl
set_option maxHeartbeats 8000000 in
set_option maxRecDepth 100000 in
theorem block_Do.calls (k : Nat) (A0 : Option Addr) (c0 : Nat) (l0 : List (S111)) (P1_ : Nat → Prop) (u9000_ : Value) (l1 : List Int) (r : List Int) (w0 w : World) (hB : Below w0.heap.size w0 w) (hr0 : ∀ W_, Kept w W_ (fun k_ => P1_ k_) → Kd.C k111 W_ A0 l0.length l0) (hc0 : l0.length ≤ c0) (ho1 : Kd.R (Kd.int .i64) 3 w w0.heap.size P1_ u9000_ l1) (h : block_Do.f k l0 l1 = some r) :
    Calls Try.prog 77 #[.slice A0 l0.length c0, u9000_] w fun e w' => e = .returned (.tuple #[]) ∧ Kd.R (Kd.int .i64) 3 w' w0.heap.size (fun k_ => (P1_ k_ ∨ w.heap.size ≤ k_)) u9000_ r ∧ Below w0.heap.size w0 w' ∧ Kept w w' (fun k_ => P1_ k_) := by
  have hu111 := Try.underlying111
  have HR0 := Aside0.mk hr0
  have HC0 := Aside0.mk hc0
  clear hr0 hc0
  have HO1 := Aside0.mk (show Kd.R (Kd.int .i64) 3 w w0.heap.size (fun k_ => (P1_ k_ ∨ w.heap.size ≤ k_)) u9000_ l1 from Kd.R_mono ho1 (fun k_ hk => (.inl hk)))
  have HK := Aside0.mk (Kept.refl w (fun k_ => P1_ k_))
  have HW0 := Aside0.mk hB.size
  have HB := Aside0.mk hB
  clear hB
  have H : (block_Do.l0 k l1 l0 (l0.length : Int) 0) = some r := h
  clear h
  have H' := Aside0.mk H
  clear H
  go_enter Try.func77, Try.ntmps77
  go_wp2
  go_loopg [8] k (fun kq v8 w' => ∃ (x1_1 : List Int) (x8_1 : Int), v8 = .int .i64 x8_1 ∧ Aside0 (block_Do.l0 kq x1_1 l0 (l0.length : Int) x8_1 = some r) ∧ Aside0 (kq ≤ k) ∧ Aside0 (Kd.R (Kd.int .i64) 3 w' w0.heap.size (fun k_ => (P1_ k_ ∨ w.heap.size ≤ k_)) u9000_ x1_1) ∧ Aside0 (Kept w w' (fun k_ => P1_ k_)) ∧ Aside0 (Below w0.heap.size w0 w'))
  case atStart => exact ⟨(l1), (0), (by first | rfl | (simp; done) | (simp [*]; done)), H', ⟨Nat.le_refl _⟩, ⟨by (with_reducible repeat (first | apply Kd.R_alloc | apply Kd.R_drewN | apply Kd.R_drew)); exact HO1.out⟩, ⟨by repeat (first | (with_reducible first | exact HK.out | apply Kept.alloc | apply Kept.drewN | apply Kept.drew) | exact HK.out)⟩, ⟨by repeat (first | (with_reducible first | exact HB.out | apply below_alloc | apply pw_below_drewN | apply below_drew1) | exact HB.out)⟩⟩
  case round =>
    clear H'
    try clear p2
    obtain ⟨x1_1, x8_1, rfl, HA, HK1, HO_1, HK, HB⟩ := hrel
    cases gk with
    | zero => exact absurd HA.out (by simp [block_Do.l0])
    | succ k1 =>
      have H := HA.out
      clear HA
      simp only [block_Do.l0] at H
      by_cases c3 : x8_1 < (l0.length : Int)
      · rw [if_pos c3] at H
        have c3b0 : decide (x8_1 < (l0.length : Int)) = true := decide_eq_true c3
        clear c3
        by_cases c4 : 0 ≤ x8_1
        · rw [if_pos c4] at H
          have c4b0 : decide (0 ≤ x8_1) = true := decide_eq_true c4
          clear c4
          by_cases c5 : x8_1 < (l0.length : Int)
          · rw [if_pos c5] at H
            have c5b0 : decide (x8_1 < (l0.length : Int)) = true := decide_eq_true c5
            clear c5
            by_cases c6 : ((rd_T111 l0 x8_1).f0) = 1
            · rw [if_pos c6] at H
              have c6b0 : (((rd_T111 l0 x8_1).f0) == 1) = true := beq_iff_eq.mpr c6
              have c6b1 : (((rd_T111 l0 x8_1).f0) != 1) = false := bne_eq_false_iff_eq.mpr c6
              clear c6
              by_cases c7 : 0 ≤ ((rd_T111 l0 x8_1).f1)
              · rw [if_pos c7] at H
                have c7b0 : decide (0 ≤ ((rd_T111 l0 x8_1).f1)) = true := decide_eq_true c7
                clear c7
                by_cases c8 : ((rd_T111 l0 x8_1).f1) < (x1_1.length : Int)
                · rw [if_pos c8] at H
                  have c8b0 : decide (((rd_T111 l0 x8_1).f1) < (x1_1.length : Int)) = true := decide_eq_true c8
                  clear c8
                  obtain ⟨y116, hy116⟩ : ∃ y_ : List Int, y_ = (x1_1.set (((rd_T111 l0 x8_1).f1) : Int).toNat ((rd_T111 l0 x8_1).f4)) := ⟨_, rfl⟩
                  replace H : (block_Do.l0 k1 y116 l0 (l0.length : Int) (wrap64 (x8_1 + 1))) = some r := by first | (rw [hy116]; with_reducible exact H) | (have H2_ := (Option.bind_some _ _).symm.trans H; rw [hy116]; with_reducible exact H2_) | (have H2_ := (Option.bind_some _ _).symm.trans H; with_reducible exact H2_) | with_reducible exact H | (rw [hy116]; exact H) | exact H
                  have Ny116 := Aside0.mk hy116
                  clear hy116
                  have H' := Aside0.mk H
                  clear H
                  have p114 : 0 ≤ (x8_1 : Int) := of_decide_eq_true (by first | (with_reducible assumption) | assumption)
                  have q114 : x8_1 < (l0.length : Int) := of_decide_eq_true (by first | (with_reducible assumption) | assumption)
                  obtain ⟨ad114, e114, hx114_0, hx114_1, hx114_2, hx114_3, hx114_4⟩ := at_T111 (Kd.C_kept_now HR0.out HK.out) x8_1 p114 q114
                  cases e114
                  replace p114 := eq_true p114
                  replace q114 := eq_true q114
                  go_wp2_with (first | ((with_reducible refine gate_dst (N := 5) rfl ?_); refine box_event ?hg (N := 5) ?hd (cs := #[.int .i64 0, .int .i64 0, .int .i64 0, .int .i64 0, .int .i64 0]) (t := 111) ?hr ?_; (case hd => rfl); (case hg => rfl); (case hr => first | (go_simp; done) | (go_simp; rfl)); intro gb115 hg w10 hbox hb; have n0_ := Aside0.mk (Kd.R_below (by (with_reducible repeat (first | apply Kd.R_alloc | apply Kd.R_drewN | apply Kd.R_drew)); exact HO_1.out) hb); have n1_ := Aside0.mk (Kept.below (S := (fun k_ => P1_ k_)) (by repeat (first | (with_reducible first | exact HK.out | apply Kept.alloc | apply Kept.drewN | apply Kept.drew) | exact HK.out)) hb); have n2_ := Aside0.mk (below_step (by repeat (first | (with_reducible first | exact HB.out | apply below_alloc | apply pw_below_drewN | apply below_drew1) | exact HB.out)) hb); have n3_ := Aside0.mk (hbox); have n4_ := Aside0.mk ((by rw [hg]; exact (by first | exact HK.out.1 | exact (show Kept w _ (fun k_ => P1_ k_) from by repeat (first | (with_reducible first | exact HK.out | apply Kept.alloc | apply Kept.drewN | apply Kept.drew) | exact HK.out)).1) : w.heap.size ≤ gb115)); have n5_ := Aside0.mk ((by rw [hg]; exact (below_size (by repeat (first | (with_reducible first | exact HB.out | apply below_alloc | apply pw_below_drewN | apply below_drew1) | exact HB.out))) : w0.heap.size ≤ gb115)); clear HO_1; clear HK; clear HB; have HO_1 := n0_; have HK := n1_; have HB := n2_; have BK115 := n3_; have GW115 := n4_; have GE115 := n5_; clear n0_ n1_ n2_ n3_ n4_ n5_; clear hb hbox hg; have hcz11_0 : w10.cell? ⟨gb115, 0, none⟩ = some (.int .i64 0) := (blk_cell BK115.out 0).trans rfl; have hcz11_1 : w10.cell? ⟨gb115, 1, none⟩ = some (.int .i64 0) := (blk_cell BK115.out 1).trans rfl; have hcz11_2 : w10.cell? ⟨gb115, 2, none⟩ = some (.int .i64 0) := (blk_cell BK115.out 2).trans rfl; have hcz11_3 : w10.cell? ⟨gb115, 3, none⟩ = some (.int .i64 0) := (blk_cell BK115.out 3).trans rfl; have hcz11_4 : w10.cell? ⟨gb115, 4, none⟩ = some (.int .i64 0) := (blk_cell BK115.out 4).trans rfl; have hfz11_0 := blk_frozen BK115.out 0; have hfz11_1 := blk_frozen BK115.out 1; have hfz11_2 := blk_frozen BK115.out 2; have hfz11_3 := blk_frozen BK115.out 3; have hfz11_4 := blk_frozen BK115.out 4) | ((with_reducible refine gate_store (t := 111) (p := 5) rfl ?_); refine store_event (t := 111) (p := 5) (v := ?vo_w12) (w1 := (((((w10.setCell ⟨gb115, 0, none⟩ (.int .i64 ((rd_T111 l0 x8_1).f0))).setCell ⟨gb115, 1, none⟩ (.int .i64 ((rd_T111 l0 x8_1).f1))).setCell ⟨gb115, 2, none⟩ (.int .i64 ((rd_T111 l0 x8_1).f2))).setCell ⟨gb115, 3, none⟩ (.int .i64 ((rd_T111 l0 x8_1).f3))).setCell ⟨gb115, 4, none⟩ (.int .i64 ((rd_T111 l0 x8_1).f4)))) ?hg ?ho ?hn ?hr ?_; (case ho => rfl); (case hg => rfl); (case hn => rfl); (case hr => first | (go_simp; done) | (go_simp; rfl)); intro w12 hw; have n0_ : Aside0 (Kd.R (Kd.int .i64) 3 w12 w0.heap.size (fun k_ => (P1_ k_ ∨ w.heap.size ≤ k_)) u9000_ x1_1) := ⟨(by rw [hw]; exact (by (with_reducible repeat (first | apply Kd.R_alloc | apply Kd.R_drewN | apply Kd.R_drew)); exact Kd.R_mono (Kd.R_far (p := ⟨gb115, 4, none⟩) (Kd.R_far (p := ⟨gb115, 3, none⟩) (Kd.R_far (p := ⟨gb115, 2, none⟩) (Kd.R_far (p := ⟨gb115, 1, none⟩) (Kd.R_far (p := ⟨gb115, 0, none⟩) (Kd.R_types HO_1.out BK115.out (by decide)) (fun _ hk => hk.2) (.int .i64 ((rd_T111 l0 x8_1).f0))) (fun _ hk => hk.2) (.int .i64 ((rd_T111 l0 x8_1).f1))) (fun _ hk => hk.2) (.int .i64 ((rd_T111 l0 x8_1).f2))) (fun _ hk => hk.2) (.int .i64 ((rd_T111 l0 x8_1).f3))) (fun _ hk => hk.2) (.int .i64 ((rd_T111 l0 x8_1).f4))) (fun _ hk => hk.1)))⟩; have n1_ : Aside0 (w12.heap[gb115]? = some (.cells #[.int .i64 ((rd_T111 l0 x8_1).f0), .int .i64 ((rd_T111 l0 x8_1).f1), .int .i64 ((rd_T111 l0 x8_1).f2), .int .i64 ((rd_T111 l0 x8_1).f3), .int .i64 ((rd_T111 l0 x8_1).f4)] 111 (0, 0))) := ⟨(by rw [hw]; exact (by (with_reducible repeat (first | refine blk_drewN ?_ _ | refine blk_drew ?_ | refine blk_alloc ?_ _)); refine blk_put (cs := #[.int .i64 ((rd_T111 l0 x8_1).f0), .int .i64 ((rd_T111 l0 x8_1).f1), .int .i64 ((rd_T111 l0 x8_1).f2), .int .i64 ((rd_T111 l0 x8_1).f3), .int .i64 0]) ?_ 4 _ rfl; (with_reducible repeat (first | refine blk_drewN ?_ _ | refine blk_drew ?_ | refine blk_alloc ?_ _)); refine blk_put (cs := #[.int .i64 ((rd_T111 l0 x8_1).f0), .int .i64 ((rd_T111 l0 x8_1).f1), .int .i64 ((rd_T111 l0 x8_1).f2), .int .i64 0, .int .i64 0]) ?_ 3 _ rfl; (with_reducible repeat (first | refine blk_drewN ?_ _ | refine blk_drew ?_ | refine blk_alloc ?_ _)); refine blk_put (cs := #[.int .i64 ((rd_T111 l0 x8_1).f0), .int .i64 ((rd_T111 l0 x8_1).f1), .int .i64 0, .int .i64 0, .int .i64 0]) ?_ 2 _ rfl; (with_reducible repeat (first | refine blk_drewN ?_ _ | refine blk_drew ?_ | refine blk_alloc ?_ _)); refine blk_put (cs := #[.int .i64 ((rd_T111 l0 x8_1).f0), .int .i64 0, .int .i64 0, .int .i64 0, .int .i64 0]) ?_ 1 _ rfl; (with_reducible repeat (first | refine blk_drewN ?_ _ | refine blk_drew ?_ | refine blk_alloc ?_ _)); refine blk_put (cs := #[.int .i64 0, .int .i64 0, .int .i64 0, .int .i64 0, .int .i64 0]) ?_ 0 _ rfl; (with_reducible repeat (first | refine blk_drewN ?_ _ | refine blk_drew ?_ | refine blk_alloc ?_ _)); exact BK115.out))⟩; have n2_ : Aside0 (Kept w w12 (fun k_ => P1_ k_)) := ⟨(by rw [hw]; exact (by repeat (first | (with_reducible first | exact HK.out | apply Kept.alloc | apply Kept.drewN | apply Kept.drew | refine Kept.setCell ?_ (.inr GW115.out) _) | exact HK.out)))⟩; have n3_ : Aside0 (Below w0.heap.size w0 w12) := ⟨(by rw [hw]; exact (by repeat (first | (with_reducible first | exact HB.out | apply below_alloc | apply pw_below_drewN | apply below_drew1 | refine below_set ?_ GE115.out) | exact HB.out)))⟩; clear hw; clear HO_1; clear BK115; clear HK; clear HB; have HO_1 := n0_; have BK115 := n1_; have HK := n2_; have HB := n3_; clear n0_ n1_ n2_ n3_; have hcz13_0 : w12.cell? ⟨gb115, 0, none⟩ = some (.int .i64 ((rd_T111 l0 x8_1).f0)) := (blk_cell BK115.out 0).trans rfl; have hcz13_1 : w12.cell? ⟨gb115, 1, none⟩ = some (.int .i64 ((rd_T111 l0 x8_1).f1)) := (blk_cell BK115.out 1).trans rfl; have hcz13_2 : w12.cell? ⟨gb115, 2, none⟩ = some (.int .i64 ((rd_T111 l0 x8_1).f2)) := (blk_cell BK115.out 2).trans rfl; have hcz13_3 : w12.cell? ⟨gb115, 3, none⟩ = some (.int .i64 ((rd_T111 l0 x8_1).f3)) := (blk_cell BK115.out 3).trans rfl; have hcz13_4 : w12.cell? ⟨gb115, 4, none⟩ = some (.int .i64 ((rd_T111 l0 x8_1).f4)) := (blk_cell BK115.out 4).trans rfl; have hfz13_0 := blk_frozen BK115.out 0; have hfz13_1 := blk_frozen BK115.out 1; have hfz13_2 := blk_frozen BK115.out 2; have hfz13_3 := blk_frozen BK115.out 3; have hfz13_4 := blk_frozen BK115.out 4; have p9 : 0 ≤ (((rd_T111 l0 x8_1).f1) : Int) := of_decide_eq_true (by first | (with_reducible assumption) | assumption); have q9 : (((rd_T111 l0 x8_1).f1) : Int) < ((x1_1.length : Int) : Int) := of_decide_eq_true (by first | (with_reducible assumption) | assumption); obtain ⟨go9, co9, eo9, gb9, gl9, cl9, HG9⟩ := Kd.R_form HO_1.out (by omega); (first | cases eo9 | (injection eo9 with ea_ en_ ec_; (first | subst ea_ | (injection ea_ with ea_; subst ea_)); subst ec_; clear en_)); have GB9 := Aside0.mk gb9; have GG9 := Aside0.mk HG9; clear gb9 gl9 HG9; have HMgo9 := Aside0.mk (show (P1_ go9 ∨ w.heap.size ≤ go9) from (HO_1.out.1 _ rfl)); obtain ⟨hx9_0, hf9_0⟩ := Kd.R_celln 0 HO_1.out (((rd_T111 l0 x8_1).f1) : Int) p9 q9; replace p9 := eq_true p9; replace q9 := eq_true q9; obtain ⟨hy14_, hz14_⟩ := Kd.R_celln 0 HO_1.out (((rd_T111 l0 x8_1).f1) : Int) (of_decide_eq_true (by first | (with_reducible assumption) | assumption)) (of_decide_eq_true (by first | (with_reducible assumption) | assumption)); have HP14 := Kd.R_putg HO_1.out (((rd_T111 l0 x8_1).f1) : Int) ((rd_T111 l0 x8_1).f4)) | ((with_reducible refine gate_store (t := 3) (p := 38) rfl ?_); refine store_event (t := 3) (p := 38) (v := ?vo_w15) (w1 := (w12.setCell ⟨go9, (((rd_T111 l0 x8_1).f1) : Int).toNat, none⟩ (.int .i64 ((rd_T111 l0 x8_1).f4)))) ?hg ?ho ?hn ?hr ?_; (case ho => rfl); (case hg => rfl); (case hn => rfl); (case hr => first | (go_simp; done) | (go_simp; rfl)); intro w15 hw; have hg : w12.grownBy w15 (some go9) := (by rw [hw]; exact HP14.2); have hp_ : Kd.R (Kd.int .i64) 3 w15 w0.heap.size (fun k_ => (P1_ k_ ∨ w.heap.size ≤ k_)) (.slice (some ⟨go9, 0, none⟩) x1_1.length co9) y116 := (by rw [hw, Ny116.out]; exact HP14.1); clear HP14; have n0_ := Aside0.mk (hp_); have n1_ := Aside0.mk (blk_grown (g := gb115) (o := .cells #[.int .i64 ((rd_T111 l0 x8_1).f0), .int .i64 ((rd_T111 l0 x8_1).f1), .int .i64 ((rd_T111 l0 x8_1).f2), .int .i64 ((rd_T111 l0 x8_1).f3), .int .i64 ((rd_T111 l0 x8_1).f4)] 111 (0, 0)) (by (with_reducible repeat (first | refine blk_drewN ?_ _ | refine blk_drew ?_ | refine blk_alloc ?_ _)); exact BK115.out) hg (Kd.R_ne HO_1.out BK115.out (by decide))); have n2_ := Aside0.mk ((by rw [hw]; exact below_set (HB.out) GB9.out : Below w0.heap.size w0 w15)); have n3_ := Aside0.mk (Kept.of_grown (S := (fun k_ => P1_ k_)) hg (by repeat (first | (with_reducible first | exact HK.out | apply Kept.alloc | apply Kept.drewN | apply Kept.drew | refine Kept.setCell ?_ (.inr GW115.out) _) | exact HK.out)) (fun k_ e_ => (HO_1.out.1 k_ e_))); clear HO_1; clear BK115; clear HB; clear HK; have HO_1 := n0_; have BK115 := n1_; have HB := n2_; have HK := n3_; clear n0_ n1_ n2_ n3_; clear hg hw hp_))
                  go_roundg k1
                  case measure => have := HK1.out; omega
                  case rel => exact ⟨(y116), (wrap64 (x8_1 + 1)), (by first | rfl | (simp; done) | (simp [*]; done)), H', ⟨by have := HK1.out; omega⟩, ⟨by (with_reducible repeat (first | apply Kd.R_alloc | apply Kd.R_drewN | apply Kd.R_drew)); exact HO_1.out⟩, ⟨by repeat (first | (with_reducible first | exact HK.out | apply Kept.alloc | apply Kept.drewN | apply Kept.drew | refine Kept.setCell ?_ (.inr GW115.out) _) | exact HK.out)⟩, ⟨by repeat (first | (with_reducible first | exact HB.out | apply below_alloc | apply pw_below_drewN | apply below_drew1 | refine below_set ?_ GE115.out) | exact HB.out)⟩⟩
                · rw [if_neg c8] at H
                  exact absurd H (by simp)
              · rw [if_neg c7] at H
                exact absurd H (by simp)
            · rw [if_neg c6] at H
              have c6b0 : (((rd_T111 l0 x8_1).f0) == 1) = false := beq_eq_false_iff_ne.mpr c6
              have c6b1 : (((rd_T111 l0 x8_1).f0) != 1) = true := bne_iff_ne.mpr c6
              by_cases c16 : ((rd_T111 l0 x8_1).f0) = 2
              · rw [if_pos c16] at H
                have c16b0 : (((rd_T111 l0 x8_1).f0) == 2) = true := beq_iff_eq.mpr c16
                have c16b1 : (((rd_T111 l0 x8_1).f0) != 2) = false := bne_eq_false_iff_eq.mpr c16
                clear c16
                by_cases c17 : 0 ≤ ((rd_T111 l0 x8_1).f4)
                · rw [if_pos c17] at H
                  have c17b0 : decide (0 ≤ ((rd_T111 l0 x8_1).f4)) = true := decide_eq_true c17
                  clear c17
                  by_cases c18 : ((rd_T111 l0 x8_1).f4) < (x1_1.length : Int)
                  · rw [if_pos c18] at H
                    have c18b0 : decide (((rd_T111 l0 x8_1).f4) < (x1_1.length : Int)) = true := decide_eq_true c18
                    clear c18
                    by_cases c19 : 0 ≤ ((rd_T111 l0 x8_1).f1)
                    · rw [if_pos c19] at H
                      have c19b0 : decide (0 ≤ ((rd_T111 l0 x8_1).f1)) = true := decide_eq_true c19
                      clear c19
                      by_cases c20 : ((rd_T111 l0 x8_1).f1) < (x1_1.length : Int)
                      · rw [if_pos c20] at H
                        have c20b0 : decide (((rd_T111 l0 x8_1).f1) < (x1_1.length : Int)) = true := decide_eq_true c20
                        clear c20
                        obtain ⟨y118, hy118⟩ : ∃ y_ : List Int, y_ = (x1_1.set (((rd_T111 l0 x8_1).f1) : Int).toNat (rd x1_1 ((rd_T111 l0 x8_1).f4))) := ⟨_, rfl⟩
                        replace H : (block_Do.l0 k1 y118 l0 (l0.length : Int) (wrap64 (x8_1 + 1))) = some r := by first | (rw [hy118]; with_reducible exact H) | (have H2_ := (Option.bind_some _ _).symm.trans H; rw [hy118]; with_reducible exact H2_) | (have H2_ := (Option.bind_some _ _).symm.trans H; with_reducible exact H2_) | with_reducible exact H | (rw [hy118]; exact H) | exact H
                        have Ny118 := Aside0.mk hy118
                        clear hy118
                        have H' := Aside0.mk H
                        clear H
                        have p114 : 0 ≤ (x8_1 : Int) := of_decide_eq_true (by first | (with_reducible assumption) | assumption)
                        have q114 : x8_1 < (l0.length : Int) := of_decide_eq_true (by first | (with_reducible assumption) | assumption)
                        obtain ⟨ad114, e114, hx114_0, hx114_1, hx114_2, hx114_3, hx114_4⟩ := at_T111 (Kd.C_kept_now HR0.out HK.out) x8_1 p114 q114
                        cases e114
                        replace p114 := eq_true p114
                        replace q114 := eq_true q114
                        try go_wp2_with (first | ((with_reducible refine gate_dst (N := 5) rfl ?_); refine box_event ?hg (N := 5) ?hd (cs := #[.int .i64 0, .int .i64 0, .int .i64 0, .int .i64 0, .int .i64 0]) (t := 111) ?hr ?_; (case hd => rfl); (case hg => rfl); (case hr => first | (go_simp; done) | (go_simp; rfl)); intro gb115 hg w22 hbox hb; have n0_ := Aside0.mk (Kd.R_below (by (with_reducible repeat (first | apply Kd.R_alloc | apply Kd.R_drewN | apply Kd.R_drew)); exact HO_1.out) hb); have n1_ := Aside0.mk (Kept.below (S := (fun k_ => P1_ k_)) (by repeat (first | (with_reducible first | exact HK.out | apply Kept.alloc | apply Kept.drewN | apply Kept.drew) | exact HK.out)) hb); have n2_ := Aside0.mk (below_step (by repeat (first | (with_reducible first | exact HB.out | apply below_alloc | apply pw_below_drewN | apply below_drew1) | exact HB.out)) hb); have n3_ := Aside0.mk (hbox); have n4_ := Aside0.mk ((by rw [hg]; exact (by first | exact HK.out.1 | exact (show Kept w _ (fun k_ => P1_ k_) from by repeat (first | (with_reducible first | exact HK.out | apply Kept.alloc | apply Kept.drewN | apply Kept.drew) | exact HK.out)).1) : w.heap.size ≤ gb115)); have n5_ := Aside0.mk ((by rw [hg]; exact (below_size (by repeat (first | (with_reducible first | exact HB.out | apply below_alloc | apply pw_below_drewN | apply below_drew1) | exact HB.out))) : w0.heap.size ≤ gb115)); clear HO_1; clear HK; clear HB; have HO_1 := n0_; have HK := n1_; have HB := n2_; have BK115 := n3_; have GW115 := n4_; have GE115 := n5_; clear n0_ n1_ n2_ n3_ n4_ n5_; clear hb hbox hg; have hcz23_0 : w22.cell? ⟨gb115, 0, none⟩ = some (.int .i64 0) := (blk_cell BK115.out 0).trans rfl; have hcz23_1 : w22.cell? ⟨gb115, 1, none⟩ = some (.int .i64 0) := (blk_cell BK115.out 1).trans rfl; have hcz23_2 : w22.cell? ⟨gb115, 2, none⟩ = some (.int .i64 0) := (blk_cell BK115.out 2).trans rfl; have hcz23_3 : w22.cell? ⟨gb115, 3, none⟩ = some (.int .i64 0) := (blk_cell BK115.out 3).trans rfl; have hcz23_4 : w22.cell? ⟨gb115, 4, none⟩ = some (.int .i64 0) := (blk_cell BK115.out 4).trans rfl; have hfz23_0 := blk_frozen BK115.out 0; have hfz23_1 := blk_frozen BK115.out 1; have hfz23_2 := blk_frozen BK115.out 2; have hfz23_3 := blk_frozen BK115.out 3; have hfz23_4 := blk_frozen BK115.out 4))
                        have n0_ : Aside0 (Kd.R (Kd.int .i64) 3 (((((w22.setCell ⟨gb115, 0, none⟩ (.int .i64 ((rd_T111 l0 x8_1).f0))).setCell ⟨gb115, 1, none⟩ (.int .i64 ((rd_T111 l0 x8_1).f1))).setCell ⟨gb115, 2, none⟩ (.int .i64 ((rd_T111 l0 x8_1).f2))).setCell ⟨gb115, 3, none⟩ (.int .i64 ((rd_T111 l0 x8_1).f3))).setCell ⟨gb115, 4, none⟩ (.int .i64 ((rd_T111 l0 x8_1).f4))) w0.heap.size (fun k_ => (P1_ k_ ∨ w.heap.size ≤ k_)) u9000_ x1_1) := ⟨by (with_reducible repeat (first | apply Kd.R_alloc | apply Kd.R_drewN | apply Kd.R_drew)); exact Kd.R_mono (Kd.R_far (p := ⟨gb115, 4, none⟩) (Kd.R_far (p := ⟨gb115, 3, none⟩) (Kd.R_far (p := ⟨gb115, 2, none⟩) (Kd.R_far (p := ⟨gb115, 1, none⟩) (Kd.R_far (p := ⟨gb115, 0, none⟩) (Kd.R_types HO_1.out BK115.out (by decide)) (fun _ hk => hk.2) (.int .i64 ((rd_T111 l0 x8_1).f0))) (fun _ hk => hk.2) (.int .i64 ((rd_T111 l0 x8_1).f1))) (fun _ hk => hk.2) (.int .i64 ((rd_T111 l0 x8_1).f2))) (fun _ hk => hk.2) (.int .i64 ((rd_T111 l0 x8_1).f3))) (fun _ hk => hk.2) (.int .i64 ((rd_T111 l0 x8_1).f4))) (fun _ hk => hk.1)⟩
                        have n1_ : Aside0 ((((((w22.setCell ⟨gb115, 0, none⟩ (.int .i64 ((rd_T111 l0 x8_1).f0))).setCell ⟨gb115, 1, none⟩ (.int .i64 ((rd_T111 l0 x8_1).f1))).setCell ⟨gb115, 2, none⟩ (.int .i64 ((rd_T111 l0 x8_1).f2))).setCell ⟨gb115, 3, none⟩ (.int .i64 ((rd_T111 l0 x8_1).f3))).setCell ⟨gb115, 4, none⟩ (.int .i64 ((rd_T111 l0 x8_1).f4))).heap[gb115]? = some (.cells #[.int .i64 ((rd_T111 l0 x8_1).f0), .int .i64 ((rd_T111 l0 x8_1).f1), .int .i64 ((rd_T111 l0 x8_1).f2), .int .i64 ((rd_T111 l0 x8_1).f3), .int .i64 ((rd_T111 l0 x8_1).f4)] 111 (0, 0))) := ⟨by (with_reducible repeat (first | refine blk_drewN ?_ _ | refine blk_drew ?_ | refine blk_alloc ?_ _)); refine blk_put (cs := #[.int .i64 ((rd_T111 l0 x8_1).f0), .int .i64 ((rd_T111 l0 x8_1).f1), .int .i64 ((rd_T111 l0 x8_1).f2), .int .i64 ((rd_T111 l0 x8_1).f3), .int .i64 0]) ?_ 4 _ rfl; (with_reducible repeat (first | refine blk_drewN ?_ _ | refine blk_drew ?_ | refine blk_alloc ?_ _)); refine blk_put (cs := #[.int .i64 ((rd_T111 l0 x8_1).f0), .int .i64 ((rd_T111 l0 x8_1).f1), .int .i64 ((rd_T111 l0 x8_1).f2), .int .i64 0, .int .i64 0]) ?_ 3 _ rfl; (with_reducible repeat (first | refine blk_drewN ?_ _ | refine blk_drew ?_ | refine blk_alloc ?_ _)); refine blk_put (cs := #[.int .i64 ((rd_T111 l0 x8_1).f0), .int .i64 ((rd_T111 l0 x8_1).f1), .int .i64 0, .int .i64 0, .int .i64 0]) ?_ 2 _ rfl; (with_reducible repeat (first | refine blk_drewN ?_ _ | refine blk_drew ?_ | refine blk_alloc ?_ _)); refine blk_put (cs := #[.int .i64 ((rd_T111 l0 x8_1).f0), .int .i64 0, .int .i64 0, .int .i64 0, .int .i64 0]) ?_ 1 _ rfl; (with_reducible repeat (first | refine blk_drewN ?_ _ | refine blk_drew ?_ | refine blk_alloc ?_ _)); refine blk_put (cs := #[.int .i64 0, .int .i64 0, .int .i64 0, .int .i64 0, .int .i64 0]) ?_ 0 _ rfl; (with_reducible repeat (first | refine blk_drewN ?_ _ | refine blk_drew ?_ | refine blk_alloc ?_ _)); exact BK115.out⟩
                        have n2_ : Aside0 (Kept w (((((w22.setCell ⟨gb115, 0, none⟩ (.int .i64 ((rd_T111 l0 x8_1).f0))).setCell ⟨gb115, 1, none⟩ (.int .i64 ((rd_T111 l0 x8_1).f1))).setCell ⟨gb115, 2, none⟩ (.int .i64 ((rd_T111 l0 x8_1).f2))).setCell ⟨gb115, 3, none⟩ (.int .i64 ((rd_T111 l0 x8_1).f3))).setCell ⟨gb115, 4, none⟩ (.int .i64 ((rd_T111 l0 x8_1).f4))) (fun k_ => P1_ k_)) := ⟨by repeat (first | (with_reducible first | exact HK.out | apply Kept.alloc | apply Kept.drewN | apply Kept.drew | refine Kept.setCell ?_ (.inr GW115.out) _) | exact HK.out)⟩
                        have n3_ : Aside0 (Below w0.heap.size w0 (((((w22.setCell ⟨gb115, 0, none⟩ (.int .i64 ((rd_T111 l0 x8_1).f0))).setCell ⟨gb115, 1, none⟩ (.int .i64 ((rd_T111 l0 x8_1).f1))).setCell ⟨gb115, 2, none⟩ (.int .i64 ((rd_T111 l0 x8_1).f2))).setCell ⟨gb115, 3, none⟩ (.int .i64 ((rd_T111 l0 x8_1).f3))).setCell ⟨gb115, 4, none⟩ (.int .i64 ((rd_T111 l0 x8_1).f4)))) := ⟨by repeat (first | (with_reducible first | exact HB.out | apply below_alloc | apply pw_below_drewN | apply below_drew1 | refine below_set ?_ GE115.out) | exact HB.out)⟩
                        (try clear HO_1)
                        (try clear BK115)
                        (try clear HK)
                        (try clear HB)
                        generalize (((((w22.setCell ⟨gb115, 0, none⟩ (.int .i64 ((rd_T111 l0 x8_1).f0))).setCell ⟨gb115, 1, none⟩ (.int .i64 ((rd_T111 l0 x8_1).f1))).setCell ⟨gb115, 2, none⟩ (.int .i64 ((rd_T111 l0 x8_1).f2))).setCell ⟨gb115, 3, none⟩ (.int .i64 ((rd_T111 l0 x8_1).f3))).setCell ⟨gb115, 4, none⟩ (.int .i64 ((rd_T111 l0 x8_1).f4))) = w24 at n0_ n1_ n2_ n3_ ⊢
                        have HO_1 := n0_
                        have BK115 := n1_
                        have HK := n2_
                        have HB := n3_
                        clear n0_ n1_ n2_ n3_
                        have n0_ := Aside0.mk (Kd.R_drew HO_1.out)
                        have n1_ := Aside0.mk (blk_drew BK115.out)
                        have n2_ := Aside0.mk (Kept.drew HK.out)
                        have n3_ := Aside0.mk (below_drew1 HB.out)
                        clear HO_1
                        clear BK115
                        clear HK
                        clear HB
                        have HO_1 := n0_
                        have BK115 := n1_
                        have HK := n2_
                        have HB := n3_
                        clear n0_ n1_ n2_ n3_
                        obtain ⟨Ao26, co26, eo26⟩ := Kd.R_slice HO_1.out
                        (first | subst eo26 | (injection eo26 with f1_ f2_ f3_; have f4_ := f1_.symm; have f5_ := f3_.symm; clear f1_ f2_ f3_; subst f4_; subst f5_))
                        have p117 : 0 ≤ (((rd_T111 l0 x8_1).f4) : Int) := of_decide_eq_true (by first | (with_reducible assumption) | assumption)
                        have q117 : ((rd_T111 l0 x8_1).f4) < (x1_1.length : Int) := of_decide_eq_true (by first | (with_reducible assumption) | assumption)
                        obtain ⟨ad117, e117, hx117_0⟩ := Kd.at_int (Kd.R_reads' HO_1.out).2.2 ((rd_T111 l0 x8_1).f4) p117 q117
                        cases e117
                        replace p117 := eq_true p117
                        replace q117 := eq_true q117
                        have p21 : 0 ≤ (((rd_T111 l0 x8_1).f1) : Int) := of_decide_eq_true (by first | (with_reducible assumption) | assumption)
                        have q21 : (((rd_T111 l0 x8_1).f1) : Int) < ((x1_1.length : Int) : Int) := of_decide_eq_true (by first | (with_reducible assumption) | assumption)
                        obtain ⟨go21, co21, eo21, gb21, gl21, cl21, HG21⟩ := Kd.R_form HO_1.out (by omega)
                        (first | cases eo21 | (injection eo21 with ea_ en_ ec_; (first | subst ea_ | (injection ea_ with ea_; subst ea_)); subst ec_; clear en_))
                        have GB21 := Aside0.mk gb21
                        have GG21 := Aside0.mk HG21
                        clear gb21 gl21 HG21
                        have HMgo21 := Aside0.mk (show (P1_ go21 ∨ w.heap.size ≤ go21) from (HO_1.out.1 _ rfl))
                        (first | simp only [add_plain] at hx117_0 | skip)
                        obtain ⟨hx21_0, hf21_0⟩ := Kd.R_celln 0 HO_1.out (((rd_T111 l0 x8_1).f1) : Int) p21 q21
                        replace p21 := eq_true p21
                        replace q21 := eq_true q21
                        have HP27 := Kd.R_putn HO_1.out (((rd_T111 l0 x8_1).f1) : Int) (rd x1_1 ((rd_T111 l0 x8_1).f4))
                        rw [← Ny118.out] at HP27
                        have HQ27 := Aside0.mk HP27
                        clear HP27
                        refine start_ (n := 10) (S := fun w' => w'.cell? ⟨gb115, 0, none⟩ = some (.int .i64 ((rd_T111 l0 x8_1).f0)) ∧ w'.cell? ⟨gb115, 1, none⟩ = some (.int .i64 ((rd_T111 l0 x8_1).f1)) ∧ w'.cell? ⟨gb115, 2, none⟩ = some (.int .i64 ((rd_T111 l0 x8_1).f2)) ∧ w'.cell? ⟨gb115, 3, none⟩ = some (.int .i64 ((rd_T111 l0 x8_1).f3)) ∧ w'.cell? ⟨gb115, 4, none⟩ = some (.int .i64 ((rd_T111 l0 x8_1).f4)) ∧ w'.cell? ⟨go21, (((rd_T111 l0 x8_1).f4)).toNat, none⟩ = some (.int .i64 (rd x1_1 ((rd_T111 l0 x8_1).f4)))) (ds := [9]) #[false, false, false, false, false, false, false, false, false, false] (by kernel_rfl) rfl rfl ⟨(blk_cell BK115.out 0).trans rfl, (blk_cell BK115.out 1).trans rfl, (blk_cell BK115.out 2).trans rfl, (blk_cell BK115.out 3).trans rfl, (blk_cell BK115.out 4).trans rfl, hx117_0⟩ (fun hHeld => ?_); refine with_tabW block_Do.tab8 block_Do.bits8 (fun HT_ HW_ => ?_)
                        generalize w24.drew = w25 at HO_1 BK115 HK HB GG21 HQ27 hf21_0 hx117_0 hx21_0 hHeld ⊢
                        refine pure_ (i := 0) (N := some 41) (v := ?_) (a' := ?_) #[true, false, false, false, false, false, false, false, false, false] rfl rfl (any_of HT_.out (by kernel_rfl)) (fun _ _ _ h => h) (Or.inl ⟨by rfl, ?_⟩) ?_ ?_
                        rotate_left
                        · intro w'
                          go_simp
                          with_reducible rfl
                        rotate_left
                        · simp only [Act.put, List.setIfInBounds_toArray, List.set_cons_zero, List.set_cons_succ, i64_w, i32_w]
                          rfl
                        refine pure_ (i := 1) (N := some 42) (v := ?_) (a' := ?_) #[true, true, false, false, false, false, false, false, false, false] rfl rfl (any_of HT_.out (by kernel_rfl)) (fun _ _ _ h => h) (Or.inl ⟨by rfl, ?_⟩) ?_ ?_
                        rotate_left
                        · intro w'
                          go_simp
                          with_reducible rfl
                        rotate_left
                        · simp only [Act.put, List.setIfInBounds_toArray, List.set_cons_zero, List.set_cons_succ, i64_w, i32_w]
                          rfl
                        refine pure_ (i := 3) (N := some 44) (v := ?_) (a' := ?_) #[true, true, false, true, false, false, false, false, false, false] rfl rfl (any_of HT_.out (by kernel_rfl)) (fun _ _ _ h => h) (Or.inl ⟨by rfl, ?_⟩) ?_ ?_
                        rotate_left
                        · intro w'
                          go_simp
                          with_reducible rfl
                        rotate_left
                        · simp only [Act.put, List.setIfInBounds_toArray, List.set_cons_zero, List.set_cons_succ, i64_w, i32_w]
                          rfl
                        refine pure_ (i := 4) (N := some 45) (v := ?_) (a' := ?_) #[true, true, false, true, true, false, false, false, false, false] rfl rfl (any_of HT_.out (by kernel_rfl)) (fun _ _ _ h => h) (Or.inl ⟨by rfl, ?_⟩) ?_ ?_
                        rotate_left
                        · intro w'
                          go_simp
                          with_reducible rfl
                        rotate_left
                        · simp only [Act.put, List.setIfInBounds_toArray, List.set_cons_zero, List.set_cons_succ, i64_w, i32_w]
                          rfl
                        refine take_ (i := 2) (N := some 43) (v := ?_) (a' := ?_) #[true, true, true, true, true, false, false, false, false, false] rfl rfl (take_ofW HT_.out HW_.out (by kernel_rfl)) (fun _ _ _ h => h) (Or.inl ⟨by rfl, ?_⟩) hHeld ?_ ?_
                        rotate_left
                        · rintro w' ⟨s0, s1, s2, s3, s4, s5⟩
                          go_simp
                          with_reducible rfl
                        rotate_left
                        · simp only [Act.put, List.setIfInBounds_toArray, List.set_cons_zero, List.set_cons_succ, i64_w, i32_w]
                          rfl
                        refine take_ (i := 5) (N := some 46) (v := ?_) (a' := ?_) #[true, true, true, true, true, true, false, false, false, false] rfl rfl (take_ofW HT_.out HW_.out (by kernel_rfl)) (fun _ _ _ h => h) (Or.inl ⟨by rfl, ?_⟩) hHeld ?_ ?_
                        rotate_left
                        · rintro w' ⟨s0, s1, s2, s3, s4, s5⟩
                          go_simp
                          with_reducible rfl
                        rotate_left
                        · simp only [Act.put, List.setIfInBounds_toArray, List.set_cons_zero, List.set_cons_succ, i64_w, i32_w]
                          rfl
                        refine pure_ (i := 6) (N := some 47) (v := ?_) (a' := ?_) #[true, true, true, true, true, true, true, false, false, false] rfl rfl (any_of HT_.out (by kernel_rfl)) (fun _ _ _ h => h) (Or.inl ⟨by rfl, ?_⟩) ?_ ?_
                        rotate_left
                        · intro w'
                          go_simp
                          with_reducible rfl
                        rotate_left
                        · simp only [Act.put, List.setIfInBounds_toArray, List.set_cons_zero, List.set_cons_succ, i64_w, i32_w]
                          rfl
                        refine take_ (i := 7) (N := some 48) (v := ?_) (a' := ?_) #[true, true, true, true, true, true, true, true, false, false] rfl rfl (take_ofW HT_.out HW_.out (by kernel_rfl)) (fun _ _ _ h => h) (Or.inl ⟨by rfl, ?_⟩) hHeld ?_ ?_
                        rotate_left
                        · rintro w' ⟨s0, s1, s2, s3, s4, s5⟩
                          go_simp
                          with_reducible rfl
                        rotate_left
                        · simp only [Act.put, List.setIfInBounds_toArray, List.set_cons_zero, List.set_cons_succ, i64_w, i32_w]
                          rfl
                        refine pure_ (i := 8) (N := some 49) (v := ?_) (a' := ?_) #[true, true, true, true, true, true, true, true, true, false] rfl rfl (any_of HT_.out (by kernel_rfl)) (fun _ _ _ h => h) (Or.inl ⟨by rfl, ?_⟩) ?_ ?_
                        rotate_left
                        · intro w'
                          go_simp
                          with_reducible rfl
                        rotate_left
                        · simp only [Act.put, List.setIfInBounds_toArray, List.set_cons_zero, List.set_cons_succ, i64_w, i32_w]
                          rfl
                        refine last_ (i := 9) (N := none) #[true, true, true, true, true, true, true, true, true, true] rfl rfl (one_of HT_.out (by kernel_rfl)) (by decide) (fun K hK => ?_)
                        refine skip_ (w1 := ?_) (by rfl) rfl ?_ ?_
                        rotate_left
                        · go_simp
                          rfl
                        refine hK.out _ _ ?_
                        clear hK K
                        refine done_ (done_of HT_.out (by kernel_rfl)) ?_
                        try go_wp2
                        go_roundg k1
                        case measure => have := HK1.out; omega
                        case rel => exact ⟨(y118), (wrap64 (x8_1 + 1)), (by first | rfl | (simp; done) | (simp [*]; done)), H', ⟨by have := HK1.out; omega⟩, ⟨by (with_reducible repeat (first | apply Kd.R_alloc | apply Kd.R_drewN | apply Kd.R_drew)); exact HQ27.out⟩, ⟨by repeat (first | (with_reducible first | exact HK.out | apply Kept.alloc | apply Kept.drewN | apply Kept.drew | refine Kept.setCell ?_ HMgo21.out _ | refine Kept.setCell ?_ (.inr GW115.out) _) | exact HK.out)⟩, ⟨by repeat (first | (with_reducible first | exact HB.out | apply below_alloc | apply pw_below_drewN | apply below_drew1 | refine below_set ?_ GB21.out | refine below_set ?_ GE115.out) | exact HB.out)⟩⟩
                      · rw [if_neg c20] at H
                        exact absurd H (by simp)
                    · rw [if_neg c19] at H
                      exact absurd H (by simp)
                  · rw [if_neg c18] at H
                    exact absurd H (by simp)
                · rw [if_neg c17] at H
                  exact absurd H (by simp)
              · rw [if_neg c16] at H
                have c16b0 : (((rd_T111 l0 x8_1).f0) == 2) = false := beq_eq_false_iff_ne.mpr c16
                have c16b1 : (((rd_T111 l0 x8_1).f0) != 2) = true := bne_iff_ne.mpr c16
                by_cases c28 : 0 ≤ ((rd_T111 l0 x8_1).f2)
                · rw [if_pos c28] at H
                  have c28b0 : decide (0 ≤ ((rd_T111 l0 x8_1).f2)) = true := decide_eq_true c28
                  clear c28
                  by_cases c29 : ((rd_T111 l0 x8_1).f2) < (x1_1.length : Int)
                  · rw [if_pos c29] at H
                    have c29b0 : decide (((rd_T111 l0 x8_1).f2) < (x1_1.length : Int)) = true := decide_eq_true c29
                    clear c29
                    by_cases c30 : 0 ≤ ((rd_T111 l0 x8_1).f3)
                    · rw [if_pos c30] at H
                      have c30b0 : decide (0 ≤ ((rd_T111 l0 x8_1).f3)) = true := decide_eq_true c30
                      clear c30
                      by_cases c31 : ((rd_T111 l0 x8_1).f3) < (x1_1.length : Int)
                      · rw [if_pos c31] at H
                        have c31b0 : decide (((rd_T111 l0 x8_1).f3) < (x1_1.length : Int)) = true := decide_eq_true c31
                        clear c31
                        replace H := Option.bind_eq_some_iff.mp H
                        obtain ⟨t121, A320, H⟩ := H
                        replace H : (if 0 ≤ ((rd_T111 l0 x8_1).f1) then (if ((rd_T111 l0 x8_1).f1) < (x1_1.length : Int) then (block_Do.l0 k1 (x1_1.set (((rd_T111 l0 x8_1).f1) : Int).toNat t121) l0 (l0.length : Int) (wrap64 (x8_1 + 1))) else (none)) else (none)) = some r := H
                        have A32 := Aside0.mk A320
                        clear A320
                        by_cases c33 : 0 ≤ ((rd_T111 l0 x8_1).f1)
                        · rw [if_pos c33] at H
                          have c33b0 : decide (0 ≤ ((rd_T111 l0 x8_1).f1)) = true := decide_eq_true c33
                          clear c33
                          by_cases c34 : ((rd_T111 l0 x8_1).f1) < (x1_1.length : Int)
                          · rw [if_pos c34] at H
                            have c34b0 : decide (((rd_T111 l0 x8_1).f1) < (x1_1.length : Int)) = true := decide_eq_true c34
                            clear c34
                            obtain ⟨y122, hy122⟩ : ∃ y_ : List Int, y_ = (x1_1.set (((rd_T111 l0 x8_1).f1) : Int).toNat t121) := ⟨_, rfl⟩
                            replace H : (block_Do.l0 k1 y122 l0 (l0.length : Int) (wrap64 (x8_1 + 1))) = some r := by first | (rw [hy122]; with_reducible exact H) | (have H2_ := (Option.bind_some _ _).symm.trans H; rw [hy122]; with_reducible exact H2_) | (have H2_ := (Option.bind_some _ _).symm.trans H; with_reducible exact H2_) | with_reducible exact H | (rw [hy122]; exact H) | exact H
                            have Ny122 := Aside0.mk hy122
                            clear hy122
                            have H' := Aside0.mk H
                            clear H
                            have p114 : 0 ≤ (x8_1 : Int) := of_decide_eq_true (by first | (with_reducible assumption) | assumption)
                            have q114 : x8_1 < (l0.length : Int) := of_decide_eq_true (by first | (with_reducible assumption) | assumption)
                            obtain ⟨ad114, e114, hx114_0, hx114_1, hx114_2, hx114_3, hx114_4⟩ := at_T111 (Kd.C_kept_now HR0.out HK.out) x8_1 p114 q114
                            cases e114
                            replace p114 := eq_true p114
                            replace q114 := eq_true q114
                            try go_wp2_with (first | ((with_reducible refine gate_dst (N := 5) rfl ?_); refine box_event ?hg (N := 5) ?hd (cs := #[.int .i64 0, .int .i64 0, .int .i64 0, .int .i64 0, .int .i64 0]) (t := 111) ?hr ?_; (case hd => rfl); (case hg => rfl); (case hr => first | (go_simp; done) | (go_simp; rfl)); intro gb115 hg w36 hbox hb; have n0_ := Aside0.mk (Kd.R_below (by (with_reducible repeat (first | apply Kd.R_alloc | apply Kd.R_drewN | apply Kd.R_drew)); exact HO_1.out) hb); have n1_ := Aside0.mk (Kept.below (S := (fun k_ => P1_ k_)) (by repeat (first | (with_reducible first | exact HK.out | apply Kept.alloc | apply Kept.drewN | apply Kept.drew) | exact HK.out)) hb); have n2_ := Aside0.mk (below_step (by repeat (first | (with_reducible first | exact HB.out | apply below_alloc | apply pw_below_drewN | apply below_drew1) | exact HB.out)) hb); have n3_ := Aside0.mk (hbox); have n4_ := Aside0.mk ((by rw [hg]; exact (by first | exact HK.out.1 | exact (show Kept w _ (fun k_ => P1_ k_) from by repeat (first | (with_reducible first | exact HK.out | apply Kept.alloc | apply Kept.drewN | apply Kept.drew) | exact HK.out)).1) : w.heap.size ≤ gb115)); have n5_ := Aside0.mk ((by rw [hg]; exact (below_size (by repeat (first | (with_reducible first | exact HB.out | apply below_alloc | apply pw_below_drewN | apply below_drew1) | exact HB.out))) : w0.heap.size ≤ gb115)); clear HO_1; clear HK; clear HB; have HO_1 := n0_; have HK := n1_; have HB := n2_; have BK115 := n3_; have GW115 := n4_; have GE115 := n5_; clear n0_ n1_ n2_ n3_ n4_ n5_; clear hb hbox hg; have hcz37_0 : w36.cell? ⟨gb115, 0, none⟩ = some (.int .i64 0) := (blk_cell BK115.out 0).trans rfl; have hcz37_1 : w36.cell? ⟨gb115, 1, none⟩ = some (.int .i64 0) := (blk_cell BK115.out 1).trans rfl; have hcz37_2 : w36.cell? ⟨gb115, 2, none⟩ = some (.int .i64 0) := (blk_cell BK115.out 2).trans rfl; have hcz37_3 : w36.cell? ⟨gb115, 3, none⟩ = some (.int .i64 0) := (blk_cell BK115.out 3).trans rfl; have hcz37_4 : w36.cell? ⟨gb115, 4, none⟩ = some (.int .i64 0) := (blk_cell BK115.out 4).trans rfl; have hfz37_0 := blk_frozen BK115.out 0; have hfz37_1 := blk_frozen BK115.out 1; have hfz37_2 := blk_frozen BK115.out 2; have hfz37_3 := blk_frozen BK115.out 3; have hfz37_4 := blk_frozen BK115.out 4))
                            have n0_ : Aside0 (Kd.R (Kd.int .i64) 3 (((((w36.setCell ⟨gb115, 0, none⟩ (.int .i64 ((rd_T111 l0 x8_1).f0))).setCell ⟨gb115, 1, none⟩ (.int .i64 ((rd_T111 l0 x8_1).f1))).setCell ⟨gb115, 2, none⟩ (.int .i64 ((rd_T111 l0 x8_1).f2))).setCell ⟨gb115, 3, none⟩ (.int .i64 ((rd_T111 l0 x8_1).f3))).setCell ⟨gb115, 4, none⟩ (.int .i64 ((rd_T111 l0 x8_1).f4))) w0.heap.size (fun k_ => (P1_ k_ ∨ w.heap.size ≤ k_)) u9000_ x1_1) := ⟨by (with_reducible repeat (first | apply Kd.R_alloc | apply Kd.R_drewN | apply Kd.R_drew)); exact Kd.R_mono (Kd.R_far (p := ⟨gb115, 4, none⟩) (Kd.R_far (p := ⟨gb115, 3, none⟩) (Kd.R_far (p := ⟨gb115, 2, none⟩) (Kd.R_far (p := ⟨gb115, 1, none⟩) (Kd.R_far (p := ⟨gb115, 0, none⟩) (Kd.R_types HO_1.out BK115.out (by decide)) (fun _ hk => hk.2) (.int .i64 ((rd_T111 l0 x8_1).f0))) (fun _ hk => hk.2) (.int .i64 ((rd_T111 l0 x8_1).f1))) (fun _ hk => hk.2) (.int .i64 ((rd_T111 l0 x8_1).f2))) (fun _ hk => hk.2) (.int .i64 ((rd_T111 l0 x8_1).f3))) (fun _ hk => hk.2) (.int .i64 ((rd_T111 l0 x8_1).f4))) (fun _ hk => hk.1)⟩
                            have n1_ : Aside0 ((((((w36.setCell ⟨gb115, 0, none⟩ (.int .i64 ((rd_T111 l0 x8_1).f0))).setCell ⟨gb115, 1, none⟩ (.int .i64 ((rd_T111 l0 x8_1).f1))).setCell ⟨gb115, 2, none⟩ (.int .i64 ((rd_T111 l0 x8_1).f2))).setCell ⟨gb115, 3, none⟩ (.int .i64 ((rd_T111 l0 x8_1).f3))).setCell ⟨gb115, 4, none⟩ (.int .i64 ((rd_T111 l0 x8_1).f4))).heap[gb115]? = some (.cells #[.int .i64 ((rd_T111 l0 x8_1).f0), .int .i64 ((rd_T111 l0 x8_1).f1), .int .i64 ((rd_T111 l0 x8_1).f2), .int .i64 ((rd_T111 l0 x8_1).f3), .int .i64 ((rd_T111 l0 x8_1).f4)] 111 (0, 0))) := ⟨by (with_reducible repeat (first | refine blk_drewN ?_ _ | refine blk_drew ?_ | refine blk_alloc ?_ _)); refine blk_put (cs := #[.int .i64 ((rd_T111 l0 x8_1).f0), .int .i64 ((rd_T111 l0 x8_1).f1), .int .i64 ((rd_T111 l0 x8_1).f2), .int .i64 ((rd_T111 l0 x8_1).f3), .int .i64 0]) ?_ 4 _ rfl; (with_reducible repeat (first | refine blk_drewN ?_ _ | refine blk_drew ?_ | refine blk_alloc ?_ _)); refine blk_put (cs := #[.int .i64 ((rd_T111 l0 x8_1).f0), .int .i64 ((rd_T111 l0 x8_1).f1), .int .i64 ((rd_T111 l0 x8_1).f2), .int .i64 0, .int .i64 0]) ?_ 3 _ rfl; (with_reducible repeat (first | refine blk_drewN ?_ _ | refine blk_drew ?_ | refine blk_alloc ?_ _)); refine blk_put (cs := #[.int .i64 ((rd_T111 l0 x8_1).f0), .int .i64 ((rd_T111 l0 x8_1).f1), .int .i64 0, .int .i64 0, .int .i64 0]) ?_ 2 _ rfl; (with_reducible repeat (first | refine blk_drewN ?_ _ | refine blk_drew ?_ | refine blk_alloc ?_ _)); refine blk_put (cs := #[.int .i64 ((rd_T111 l0 x8_1).f0), .int .i64 0, .int .i64 0, .int .i64 0, .int .i64 0]) ?_ 1 _ rfl; (with_reducible repeat (first | refine blk_drewN ?_ _ | refine blk_drew ?_ | refine blk_alloc ?_ _)); refine blk_put (cs := #[.int .i64 0, .int .i64 0, .int .i64 0, .int .i64 0, .int .i64 0]) ?_ 0 _ rfl; (with_reducible repeat (first | refine blk_drewN ?_ _ | refine blk_drew ?_ | refine blk_alloc ?_ _)); exact BK115.out⟩
                            have n2_ : Aside0 (Kept w (((((w36.setCell ⟨gb115, 0, none⟩ (.int .i64 ((rd_T111 l0 x8_1).f0))).setCell ⟨gb115, 1, none⟩ (.int .i64 ((rd_T111 l0 x8_1).f1))).setCell ⟨gb115, 2, none⟩ (.int .i64 ((rd_T111 l0 x8_1).f2))).setCell ⟨gb115, 3, none⟩ (.int .i64 ((rd_T111 l0 x8_1).f3))).setCell ⟨gb115, 4, none⟩ (.int .i64 ((rd_T111 l0 x8_1).f4))) (fun k_ => P1_ k_)) := ⟨by repeat (first | (with_reducible first | exact HK.out | apply Kept.alloc | apply Kept.drewN | apply Kept.drew | refine Kept.setCell ?_ (.inr GW115.out) _) | exact HK.out)⟩
                            have n3_ : Aside0 (Below w0.heap.size w0 (((((w36.setCell ⟨gb115, 0, none⟩ (.int .i64 ((rd_T111 l0 x8_1).f0))).setCell ⟨gb115, 1, none⟩ (.int .i64 ((rd_T111 l0 x8_1).f1))).setCell ⟨gb115, 2, none⟩ (.int .i64 ((rd_T111 l0 x8_1).f2))).setCell ⟨gb115, 3, none⟩ (.int .i64 ((rd_T111 l0 x8_1).f3))).setCell ⟨gb115, 4, none⟩ (.int .i64 ((rd_T111 l0 x8_1).f4)))) := ⟨by repeat (first | (with_reducible first | exact HB.out | apply below_alloc | apply pw_below_drewN | apply below_drew1 | refine below_set ?_ GE115.out) | exact HB.out)⟩
                            (try clear HO_1)
                            (try clear BK115)
                            (try clear HK)
                            (try clear HB)
                            generalize (((((w36.setCell ⟨gb115, 0, none⟩ (.int .i64 ((rd_T111 l0 x8_1).f0))).setCell ⟨gb115, 1, none⟩ (.int .i64 ((rd_T111 l0 x8_1).f1))).setCell ⟨gb115, 2, none⟩ (.int .i64 ((rd_T111 l0 x8_1).f2))).setCell ⟨gb115, 3, none⟩ (.int .i64 ((rd_T111 l0 x8_1).f3))).setCell ⟨gb115, 4, none⟩ (.int .i64 ((rd_T111 l0 x8_1).f4))) = w38 at n0_ n1_ n2_ n3_ ⊢
                            have HO_1 := n0_
                            have BK115 := n1_
                            have HK := n2_
                            have HB := n3_
                            clear n0_ n1_ n2_ n3_
                            have n0_ := Aside0.mk (Kd.R_drew HO_1.out)
                            have n1_ := Aside0.mk (blk_drew BK115.out)
                            have n2_ := Aside0.mk (Kept.drew HK.out)
                            have n3_ := Aside0.mk (below_drew1 HB.out)
                            clear HO_1
                            clear BK115
                            clear HK
                            clear HB
                            have HO_1 := n0_
                            have BK115 := n1_
                            have HK := n2_
                            have HB := n3_
                            clear n0_ n1_ n2_ n3_
                            obtain ⟨Ao40, co40, eo40⟩ := Kd.R_slice HO_1.out
                            (first | subst eo40 | (injection eo40 with f1_ f2_ f3_; have f4_ := f1_.symm; have f5_ := f3_.symm; clear f1_ f2_ f3_; subst f4_; subst f5_))
                            have p119 : 0 ≤ (((rd_T111 l0 x8_1).f2) : Int) := of_decide_eq_true (by first | (with_reducible assumption) | assumption)
                            have q119 : ((rd_T111 l0 x8_1).f2) < (x1_1.length : Int) := of_decide_eq_true (by first | (with_reducible assumption) | assumption)
                            obtain ⟨ad119, e119, hx119_0⟩ := Kd.at_int (Kd.R_reads' HO_1.out).2.2 ((rd_T111 l0 x8_1).f2) p119 q119
                            cases e119
                            replace p119 := eq_true p119
                            replace q119 := eq_true q119
                            have p120 : 0 ≤ (((rd_T111 l0 x8_1).f3) : Int) := of_decide_eq_true (by first | (with_reducible assumption) | assumption)
                            have q120 : ((rd_T111 l0 x8_1).f3) < (x1_1.length : Int) := of_decide_eq_true (by first | (with_reducible assumption) | assumption)
                            obtain ⟨ad120, e120, hx120_0⟩ := Kd.at_int (Kd.R_reads' HO_1.out).2.2 ((rd_T111 l0 x8_1).f3) p120 q120
                            obtain rfl : ad119 = ad120 := (by injection e120)
                            replace p120 := eq_true p120
                            replace q120 := eq_true q120
                            refine start_ (n := 18) (S := fun w' => w'.cell? ⟨gb115, 0, none⟩ = some (.int .i64 ((rd_T111 l0 x8_1).f0)) ∧ w'.cell? ⟨gb115, 1, none⟩ = some (.int .i64 ((rd_T111 l0 x8_1).f1)) ∧ w'.cell? ⟨gb115, 2, none⟩ = some (.int .i64 ((rd_T111 l0 x8_1).f2)) ∧ w'.cell? ⟨gb115, 3, none⟩ = some (.int .i64 ((rd_T111 l0 x8_1).f3)) ∧ w'.cell? ⟨gb115, 4, none⟩ = some (.int .i64 ((rd_T111 l0 x8_1).f4)) ∧ w'.cell? (ad119.add (((rd_T111 l0 x8_1).f2)).toNat) = some (.int .i64 (rd x1_1 ((rd_T111 l0 x8_1).f2))) ∧ w'.cell? (ad119.add (((rd_T111 l0 x8_1).f3)).toNat) = some (.int .i64 (rd x1_1 ((rd_T111 l0 x8_1).f3)))) (ds := [17]) #[false, false, false, false, false, false, false, false, false, false, false, false, false, false, false, false, false, false] (by kernel_rfl) rfl rfl ⟨(blk_cell BK115.out 0).trans rfl, (blk_cell BK115.out 1).trans rfl, (blk_cell BK115.out 2).trans rfl, (blk_cell BK115.out 3).trans rfl, (blk_cell BK115.out 4).trans rfl, hx119_0, hx120_0⟩ (fun hHeld => ?_); refine with_tabW block_Do.tab4 block_Do.bits4 (fun HT_ HW_ => ?_)
                            generalize w38.drew = w39 at HO_1 BK115 HK HB hx119_0 hx120_0 hHeld ⊢
                            refine pure_ (i := 0) (N := some 14) (v := ?_) (a' := ?_) #[true, false, false, false, false, false, false, false, false, false, false, false, false, false, false, false, false, false] rfl rfl (any_of HT_.out (by kernel_rfl)) (fun _ _ _ h => h) (Or.inl ⟨by rfl, ?_⟩) ?_ ?_
                            rotate_left
                            · intro w'
                              go_simp
                              with_reducible rfl
                            rotate_left
                            · simp only [Act.put, List.setIfInBounds_toArray, List.set_cons_zero, List.set_cons_succ, i64_w, i32_w]
                              rfl
                            refine pure_ (i := 1) (N := some 15) (v := ?_) (a' := ?_) #[true, true, false, false, false, false, false, false, false, false, false, false, false, false, false, false, false, false] rfl rfl (any_of HT_.out (by kernel_rfl)) (fun _ _ _ h => h) (Or.inl ⟨by rfl, ?_⟩) ?_ ?_
                            rotate_left
                            · intro w'
                              go_simp
                              with_reducible rfl
                            rotate_left
                            · simp only [Act.put, List.setIfInBounds_toArray, List.set_cons_zero, List.set_cons_succ, i64_w, i32_w]
                              rfl
                            refine pure_ (i := 3) (N := some 17) (v := ?_) (a' := ?_) #[true, true, false, true, false, false, false, false, false, false, false, false, false, false, false, false, false, false] rfl rfl (any_of HT_.out (by kernel_rfl)) (fun _ _ _ h => h) (Or.inl ⟨by rfl, ?_⟩) ?_ ?_
                            rotate_left
                            · intro w'
                              go_simp
                              with_reducible rfl
                            rotate_left
                            · simp only [Act.put, List.setIfInBounds_toArray, List.set_cons_zero, List.set_cons_succ, i64_w, i32_w]
                              rfl
                            refine pure_ (i := 5) (N := some 19) (v := ?_) (a' := ?_) #[true, true, false, true, false, true, false, false, false, false, false, false, false, false, false, false, false, false] rfl rfl (any_of HT_.out (by kernel_rfl)) (fun _ _ _ h => h) (Or.inl ⟨by rfl, ?_⟩) ?_ ?_
                            rotate_left
                            · intro w'
                              go_simp
                              with_reducible rfl
                            rotate_left
                            · simp only [Act.put, List.setIfInBounds_toArray, List.set_cons_zero, List.set_cons_succ, i64_w, i32_w]
                              rfl
                            refine pure_ (i := 6) (N := some 20) (v := ?_) (a' := ?_) #[true, true, false, true, false, true, true, false, false, false, false, false, false, false, false, false, false, false] rfl rfl (any_of HT_.out (by kernel_rfl)) (fun _ _ _ h => h) (Or.inl ⟨by rfl, ?_⟩) ?_ ?_
                            rotate_left
                            · intro w'
                              go_simp
                              with_reducible rfl
                            rotate_left
                            · simp only [Act.put, List.setIfInBounds_toArray, List.set_cons_zero, List.set_cons_succ, i64_w, i32_w]
                              rfl
                            refine pure_ (i := 10) (N := some 24) (v := ?_) (a' := ?_) #[true, true, false, true, false, true, true, false, false, false, true, false, false, false, false, false, false, false] rfl rfl (any_of HT_.out (by kernel_rfl)) (fun _ _ _ h => h) (Or.inl ⟨by rfl, ?_⟩) ?_ ?_
                            rotate_left
                            · intro w'
                              go_simp
                              with_reducible rfl
                            rotate_left
                            · simp only [Act.put, List.setIfInBounds_toArray, List.set_cons_zero, List.set_cons_succ, i64_w, i32_w]
                              rfl
                            refine pure_ (i := 11) (N := some 25) (v := ?_) (a' := ?_) #[true, true, false, true, false, true, true, false, false, false, true, true, false, false, false, false, false, false] rfl rfl (any_of HT_.out (by kernel_rfl)) (fun _ _ _ h => h) (Or.inl ⟨by rfl, ?_⟩) ?_ ?_
                            rotate_left
                            · intro w'
                              go_simp
                              with_reducible rfl
                            rotate_left
                            · simp only [Act.put, List.setIfInBounds_toArray, List.set_cons_zero, List.set_cons_succ, i64_w, i32_w]
                              rfl
                            refine take_ (i := 2) (N := some 16) (v := ?_) (a' := ?_) #[true, true, true, true, false, true, true, false, false, false, true, true, false, false, false, false, false, false] rfl rfl (take_ofW HT_.out HW_.out (by kernel_rfl)) (fun _ _ _ h => h) (Or.inl ⟨by rfl, ?_⟩) hHeld ?_ ?_
                            rotate_left
                            · rintro w' ⟨s0, s1, s2, s3, s4, s5, s6⟩
                              go_simp
                              with_reducible rfl
                            rotate_left
                            · simp only [Act.put, List.setIfInBounds_toArray, List.set_cons_zero, List.set_cons_succ, i64_w, i32_w]
                              rfl
                            refine take_ (i := 4) (N := some 18) (v := ?_) (a' := ?_) #[true, true, true, true, true, true, true, false, false, false, true, true, false, false, false, false, false, false] rfl rfl (take_ofW HT_.out HW_.out (by kernel_rfl)) (fun _ _ _ h => h) (Or.inl ⟨by rfl, ?_⟩) hHeld ?_ ?_
                            rotate_left
                            · rintro w' ⟨s0, s1, s2, s3, s4, s5, s6⟩
                              go_simp
                              with_reducible rfl
                            rotate_left
                            · simp only [Act.put, List.setIfInBounds_toArray, List.set_cons_zero, List.set_cons_succ, i64_w, i32_w]
                              rfl
                            refine take_ (i := 7) (N := some 21) (v := ?_) (a' := ?_) #[true, true, true, true, true, true, true, true, false, false, true, true, false, false, false, false, false, false] rfl rfl (take_ofW HT_.out HW_.out (by kernel_rfl)) (fun _ _ _ h => h) (Or.inl ⟨by rfl, ?_⟩) hHeld ?_ ?_
                            rotate_left
                            · rintro w' ⟨s0, s1, s2, s3, s4, s5, s6⟩
                              go_simp
                              with_reducible rfl
                            rotate_left
                            · simp only [Act.put, List.setIfInBounds_toArray, List.set_cons_zero, List.set_cons_succ, i64_w, i32_w]
                              rfl
                            refine pure_ (i := 8) (N := some 22) (v := ?_) (a' := ?_) #[true, true, true, true, true, true, true, true, true, false, true, true, false, false, false, false, false, false] rfl rfl (any_of HT_.out (by kernel_rfl)) (fun _ _ _ h => h) (Or.inl ⟨by rfl, ?_⟩) ?_ ?_
                            rotate_left
                            · intro w'
                              go_simp
                              with_reducible rfl
                            rotate_left
                            · simp only [Act.put, List.setIfInBounds_toArray, List.set_cons_zero, List.set_cons_succ, i64_w, i32_w]
                              rfl
                            refine take_ (i := 9) (N := some 23) (v := ?_) (a' := ?_) #[true, true, true, true, true, true, true, true, true, true, true, true, false, false, false, false, false, false] rfl rfl (take_ofW HT_.out HW_.out (by kernel_rfl)) (fun _ _ _ h => h) (Or.inl ⟨by rfl, ?_⟩) hHeld ?_ ?_
                            rotate_left
                            · rintro w' ⟨s0, s1, s2, s3, s4, s5, s6⟩
                              go_simp
                              with_reducible rfl
                            rotate_left
                            · simp only [Act.put, List.setIfInBounds_toArray, List.set_cons_zero, List.set_cons_succ, i64_w, i32_w]
                              rfl
                            refine take_ (i := 12) (N := some 26) (v := ?_) (a' := ?_) #[true, true, true, true, true, true, true, true, true, true, true, true, true, false, false, false, false, false] rfl rfl (take_ofW HT_.out HW_.out (by kernel_rfl)) (fun _ _ _ h => h) (Or.inl ⟨by rfl, ?_⟩) hHeld ?_ ?_
                            rotate_left
                            · rintro w' ⟨s0, s1, s2, s3, s4, s5, s6⟩
                              go_simp
                              with_reducible rfl
                            rotate_left
                            · simp only [Act.put, List.setIfInBounds_toArray, List.set_cons_zero, List.set_cons_succ, i64_w, i32_w]
                              rfl
                            refine pure_ (i := 13) (N := some 27) (v := ?_) (a' := ?_) #[true, true, true, true, true, true, true, true, true, true, true, true, true, true, false, false, false, false] rfl rfl (any_of HT_.out (by kernel_rfl)) (fun _ _ _ h => h) (Or.inl ⟨by rfl, ?_⟩) ?_ ?_
                            rotate_left
                            · intro w'
                              go_simp
                              with_reducible rfl
                            rotate_left
                            · simp only [Act.put, List.setIfInBounds_toArray, List.set_cons_zero, List.set_cons_succ, i64_w, i32_w]
                              rfl
                            refine take_ (i := 14) (N := some 28) (v := ?_) (a' := ?_) #[true, true, true, true, true, true, true, true, true, true, true, true, true, true, true, false, false, false] rfl rfl (take_ofW HT_.out HW_.out (by kernel_rfl)) (fun _ _ _ h => h) (Or.inl ⟨by rfl, ?_⟩) hHeld ?_ ?_
                            rotate_left
                            · rintro w' ⟨s0, s1, s2, s3, s4, s5, s6⟩
                              go_simp
                              with_reducible rfl
                            rotate_left
                            · simp only [Act.put, List.setIfInBounds_toArray, List.set_cons_zero, List.set_cons_succ, i64_w, i32_w]
                              rfl
                            refine one_ (i := 15) (N := some 29) #[true, true, true, true, true, true, true, true, true, true, true, true, true, true, true, true, false, false] rfl rfl (one_of HT_.out (by kernel_rfl)) (by decide) (fun K hK => ?_)
                            refine goes_ Try.func79 (by kernel_rfl) rfl #[.int .i64 ((rd_T111 l0 x8_1).f0), .int .i64 (rd x1_1 ((rd_T111 l0 x8_1).f2)), .int .i64 (rd x1_1 ((rd_T111 l0 x8_1).f3))] (by rfl) rfl rfl (by (try simp only [List.map_toArray, List.map_cons, List.map_nil]); first | done | rfl | (simp only [List.length_drop, List.length_take]; rfl)) ?_
                            with_reducible refine (term_Do.calls ((rd_T111 l0 x8_1).f0) (rd x1_1 ((rd_T111 l0 x8_1).f2)) (rd x1_1 ((rd_T111 l0 x8_1).f3)) t121 _ A32.out).mono ?_
                            rintro e w' ⟨rfl, ⟨nd, rfl⟩⟩
                            refine ⟨_, rfl, ?_⟩
                            have p35 : 0 ≤ (((rd_T111 l0 x8_1).f1) : Int) := of_decide_eq_true (by first | (with_reducible assumption) | assumption)
                            have q35 : (((rd_T111 l0 x8_1).f1) : Int) < ((x1_1.length : Int) : Int) := of_decide_eq_true (by first | (with_reducible assumption) | assumption)
                            obtain ⟨go35, co35, eo35, gb35, gl35, cl35, HG35⟩ := Kd.R_form HO_1.out (by omega)
                            (first | cases eo35 | (injection eo35 with ea_ en_ ec_; (first | subst ea_ | (injection ea_ with ea_; subst ea_)); subst ec_; clear en_))
                            have GB35 := Aside0.mk gb35
                            have GG35 := Aside0.mk HG35
                            clear gb35 gl35 HG35
                            have HMgo35 := Aside0.mk (show (P1_ go35 ∨ w.heap.size ≤ go35) from (HO_1.out.1 _ rfl))
                            (first | simp only [add_plain] at hx119_0 | skip)
                            (first | simp only [add_plain] at hx120_0 | skip)
                            obtain ⟨hx35_0, hf35_0⟩ := Kd.R_celln 0 HO_1.out (((rd_T111 l0 x8_1).f1) : Int) p35 q35
                            replace p35 := eq_true p35
                            replace q35 := eq_true q35
                            have HP41 := Kd.R_putn HO_1.out (((rd_T111 l0 x8_1).f1) : Int) t121
                            rw [← Ny122.out] at HP41
                            have HQ41 := Aside0.mk HP41
                            clear HP41
                            refine hK.out _ _ ⟨(blk_cell BK115.out 0).trans rfl, (blk_cell BK115.out 1).trans rfl, (blk_cell BK115.out 2).trans rfl, (blk_cell BK115.out 3).trans rfl, (blk_cell BK115.out 4).trans rfl, hHeld.2.2.2.2.2.1, hHeld.2.2.2.2.2.2⟩ (fun hHeld => ?_)
                            clear hK K
                            refine norm_ (a' := ?_) ?_ ?_
                            rotate_left
                            · show Act.put _ (some 29) _ = _
                              simp only [Act.put, List.setIfInBounds_toArray, List.set_cons_zero, List.set_cons_succ, i64_w, i32_w]
                              rfl
                            refine pure_ (i := 16) (N := some 30) (v := ?_) (a' := ?_) #[true, true, true, true, true, true, true, true, true, true, true, true, true, true, true, true, true, false] rfl rfl (any_of HT_.out (by kernel_rfl)) (fun _ _ _ h => h) (Or.inl ⟨by rfl, ?_⟩) ?_ ?_
                            rotate_left
                            · intro w'
                              go_simp
                              with_reducible rfl
                            rotate_left
                            · simp only [Act.put, List.setIfInBounds_toArray, List.set_cons_zero, List.set_cons_succ, i64_w, i32_w]
                              rfl
                            refine last_ (i := 17) (N := none) #[true, true, true, true, true, true, true, true, true, true, true, true, true, true, true, true, true, true] rfl rfl (one_of HT_.out (by kernel_rfl)) (by decide) (fun K hK => ?_)
                            refine skip_ (w1 := ?_) (by rfl) rfl ?_ ?_
                            rotate_left
                            · go_simp
                              rfl
                            refine hK.out _ _ ?_
                            clear hK K
                            refine done_ (done_of HT_.out (by kernel_rfl)) ?_
                            try go_wp2
                            go_roundg k1
                            case measure => have := HK1.out; omega
                            case rel => exact ⟨(y122), (wrap64 (x8_1 + 1)), (by first | rfl | (simp; done) | (simp [*]; done)), H', ⟨by have := HK1.out; omega⟩, ⟨by (with_reducible repeat (first | apply Kd.R_alloc | apply Kd.R_drewN | apply Kd.R_drew)); exact HQ41.out⟩, ⟨by repeat (first | (with_reducible first | exact HK.out | apply Kept.alloc | apply Kept.drewN | apply Kept.drew | refine Kept.setCell ?_ HMgo35.out _ | refine Kept.setCell ?_ (.inr GW115.out) _) | exact HK.out)⟩, ⟨by repeat (first | (with_reducible first | exact HB.out | apply below_alloc | apply pw_below_drewN | apply below_drew1 | refine below_set ?_ GB35.out | refine below_set ?_ GE115.out) | exact HB.out)⟩⟩
                          · rw [if_neg c34] at H
                            exact absurd H (by simp)
                        · rw [if_neg c33] at H
                          exact absurd H (by simp)
                      · rw [if_neg c31] at H
                        exact absurd H (by simp)
                    · rw [if_neg c30] at H
                      exact absurd H (by simp)
                  · rw [if_neg c29] at H
                    exact absurd H (by simp)
                · rw [if_neg c28] at H
                  exact absurd H (by simp)
          · rw [if_neg c5] at H
            exact absurd H (by simp)
        · rw [if_neg c4] at H
          exact absurd H (by simp)
      · rw [if_neg c3] at H
        have c3b0 : decide (x8_1 < (l0.length : Int)) = false := decide_eq_false c3
        clear c3
        obtain rfl := Option.some.inj H
        go_wp2
        first | go_end0 | ((try simp only [Exit.inBlock, Exit.then]); refine bodyPost_ret (results_none rfl _ _ _) rfl ?_)
        exact ⟨by first | rfl | (simp [errW_none, errW_some] <;> rfl) | (simp [*, errW_none, errW_some] <;> rfl), by (with_reducible repeat (first | apply Kd.R_alloc | apply Kd.R_drewN | apply Kd.R_drew)); exact HO_1.out, by repeat (first | (with_reducible first | exact HB.out | apply below_alloc | apply pw_below_drewN | apply below_drew1) | exact HB.out), by repeat (first | (with_reducible first | exact HK.out | apply Kept.alloc | apply Kept.drewN | apply Kept.drew) | exact HK.out)⟩
end Go.Proofs.Ytaicamjpcnhjcaa.PA
namespace Go.Proofs.Ytaicamjpcnhjcaa.PA
open Go.RowKit Go.Proofs.YtaicamjpcnhjcaaW.PrintWords Go.Proofs.YtaicamjpcnhjcaaW.PrintLast Go.Proofs.YtaicamjpcnhjcaaW.PrintMore
set_option linter.unusedVariables false
set_option linter.unusedSimpArgs false
abbrev RunO := Option (List Int × Int × Bool)
def runWhile (go : List Int → Int → RunO) (x : Int) : Nat → List Int → Int → RunO
  | 0, _, _ => none
  | k + 1, v, t => if 0 ≤ x ∧ x < v.length then if v.getD x.toNat 0 = 0 then some (v, t, true) else if wrap64 (t - 1) < 0 then some (v, wrap64 (t - 1), false) else (go v (wrap64 (t - 1))).bind fun o => if o.2.2 = true then runWhile go x k o.1 o.2.1 else some (o.1, o.2.1, false) else none
def runOne (k : Nat) (go : List S127 → List Int → Int → RunO) (x : S127) (v : List Int) (t : Int) : RunO :=
  if x.f0 = 1 then (block_Do.f k x.f2 v).bind fun v' => some (v', t, true)
  else if x.f0 = 2 then if 0 ≤ x.f1 ∧ x.f1 < v.length then go (if v.getD x.f1.toNat 0 = 0 then x.f4 else x.f3) v t else none
  else if x.f0 = 3 then runWhile (go x.f3) x.f1 k v t else some (v, t, true)
def runLoop (k : Nat) (go : List S127 → List Int → Int → RunO) : List S127 → List Int → Int → RunO
  | [], v, t => some (v, t, true)
  | x :: l, v, t => (runOne k go x v t).bind fun o => if o.2.2 = true then runLoop k go l o.1 o.2.1 else some (o.1, o.2.1, false)
def shape_run.f : Nat → List S127 → List Int → Int → RunO
  | 0, _, _, _ => none
  | k + 1, l, v, t => runLoop k (fun p => shape_run.f k p) l v t
theorem runLoop_at (k : Nat) (go : List S127 → List Int → Int → RunO) {l : List S127} {i : Nat} (h : i < l.length) (v : List Int) (t : Int) : runLoop k go (l.drop i) v t = (runOne k go (l.getD i z127) v t).bind fun o => if o.2.2 = true then runLoop k go (l.drop (i + 1)) o.1 o.2.1 else some (o.1, o.2.1, false) := by
  rw [drop_at z127 h]; rfl
theorem runWhile_mono {go go' : List Int → Int → RunO} (h : ∀ v t, LeO (go v t) (go' v t)) (x : Int) : ∀ k v t, LeO (runWhile go x k v t) (runWhile go' x (k + 1) v t)
  | 0, _, _ => LeO.none _
  | k + 1, v, t => by
    rw [runWhile, runWhile]
    exact LeO.ite (LeO.ite (LeO.refl _) (LeO.ite (LeO.refl _) (LeO.bind (h _ _) (fun o => LeO.ite (runWhile_mono h x k _ _) (LeO.refl _))))) (LeO.refl _)
theorem runOne_mono {k : Nat} {go go' : List S127 → List Int → Int → RunO} (h : ∀ p v t, LeO (go p v t) (go' p v t)) (x : S127) (v : List Int) (t : Int) : LeO (runOne k go x v t) (runOne (k + 1) go' x v t) := by
  unfold runOne
  exact LeO.ite (LeO.bind (block_Do.mono _ _ _) (fun _ => LeO.refl _)) (LeO.ite (LeO.ite (h _ _ _) (LeO.refl _)) (LeO.ite (runWhile_mono (h _) _ _ _ _) (LeO.refl _)))
theorem runLoop_mono {k : Nat} {go go' : List S127 → List Int → Int → RunO} (h : ∀ p v t, LeO (go p v t) (go' p v t)) : ∀ l v t, LeO (runLoop k go l v t) (runLoop (k + 1) go' l v t)
  | [], _, _ => LeO.refl _
  | x :: l, v, t => LeO.bind (runOne_mono h x v t) (fun o => LeO.ite (runLoop_mono h l _ _) (LeO.refl _))
theorem shape_run.mono : ∀ a0 a1 a2 k, LeO (shape_run.f k a0 a1 a2) (shape_run.f (k + 1) a0 a1 a2) := fun a0 a1 a2 k => by
  induction k generalizing a0 a1 a2 with
  | zero => exact LeO.none _
  | succ k ih =>
    rw [shape_run.f, shape_run.f]
    exact runLoop_mono (fun p v t => ih p v t) _ _ _
structure RunSt (w0 w wr : World) (P : Nat → Prop) (gt : Nat) (u : Value) (v : List Int) (t : Int) : Prop where
  row : Kd.R (Kd.int .i64) 3 wr w0.heap.size P u v
  turn : wr.heap[gt]? = some (.cells #[.int .i64 t] 3 (0, 0))
  below : Below w0.heap.size w0 wr
  kept : Kept w wr (fun k => P k ∨ k = gt)
section
variable {w0 w wr w2 : World} {P : Nat → Prop} {gt : Nat} {u : Value} {v v' : List Int} {t t' : Int}
theorem RunSt.alloc (h : RunSt w0 w wr P gt u v t) (o : Obj) : RunSt w0 w (wr.alloc o) P gt u v t :=
  ⟨Kd.R_alloc h.row o, blk_alloc h.turn o, below_alloc h.below o, h.kept.alloc o⟩
theorem RunSt.mine (h : RunSt w0 w wr P gt u v t) (k : RunSt w0 wr w2 P gt u v' t') : RunSt w0 w w2 P gt u v' t' :=
  ⟨k.row, k.turn, k.below, h.kept.then_ k.kept (fun _ hk => .inl hk)⟩
theorem RunSt.mine' (h : RunSt w0 w wr P gt u v t) : RunSt w0 wr wr P gt u v t := ⟨h.row, h.turn, h.below, Kept.refl _ _⟩
theorem RunSt.apart (h : RunSt w0 w wr P gt u v t) (hPu : ∀ k_, P k_ → u.ownBlock = some k_) {g : Nat} {cs : Array Value} (hb : wr.heap[g]? = some (.cells cs 127 (0, 0))) : ¬ (P g ∨ g = gt) := by
  rintro (hp | rfl)
  · exact Kd.R_ne h.row hb (by decide) (hPu g hp).symm
  · exact blk_ne hb h.turn (by decide) rfl
theorem RunSt.setTurn (h : RunSt w0 w wr P gt u v t) (hg : w0.heap.size ≤ gt) (hP : ¬ P gt) (x : Int) : RunSt w0 w (wr.setCell ⟨gt, 0, none⟩ (.int .i64 x)) P gt u v x :=
  ⟨Kd.R_far (p := ⟨gt, 0, none⟩) h.row (fun k hk e => hP (by subst e; exact hk)) _, by simpa using blk_set h.turn 0 (.int .i64 x), below_set h.below hg, h.kept.setCell (.inl (.inr rfl)) _⟩
theorem RunSt.did {P' : Nat → Prop} (h : RunSt w0 w wr P gt u v t) (hP : ¬ P gt) (hr : Kd.R (Kd.int .i64) 3 w2 w0.heap.size P' u v') (hb : Below w0.heap.size w0 w2) (hk : Kept wr w2 (fun k => P k)) : RunSt w0 w w2 P gt u v' t :=
  ⟨Kd.R_reok rfl hr h.row.1, blk_kept h.turn hk hP, hb, h.kept.then_ hk (fun _ hk => .inl (.inl hk))⟩
end
set_option maxRecDepth 100000 in
set_option maxHeartbeats 4000000 in
theorem shape_run.calls : ∀ (k : Nat) (A0 : Option Addr) (c0 : Nat) (l0 : List S127) (P : Nat → Prop) (u : Value) (v : List Int) (gt : Nat) (t : Int) (r : List Int × Int × Bool) (w0 w : World) (hr0 : Kd.C k127 w0 A0 l0.length l0) (hc0 : l0.length ≤ c0) (hst : RunSt w0 w w P gt u v t) (hg : w0.heap.size ≤ gt) (hP : ¬ P gt) (hPu : ∀ k_, P k_ → u.ownBlock = some k_) (h : shape_run.f k l0 v t = some r),
    Calls Try.prog 70 #[.slice A0 l0.length c0, u, .pointer (some ⟨gt, 0, none⟩)] w fun e w' => e = .returned (.bool r.2.2) ∧ RunSt w0 w w' P gt u r.1 r.2.1 := by
  intro k
  induction k with
  | zero => intro _ _ _ _ _ _ _ _ _ _ _ _ _ _ _ _ _ h; simp [shape_run.f] at h
  | succ k ih =>
    intro A0 c0 l0 P u v gt t r w0 w hr0 hc0 hst hg hP hPu h
    have IH := Aside0.mk ih
    clear ih
    have hl := hr0.2.1
    have HR := Aside0.mk hr0
    clear hr0
    rw [shape_run.f] at h
    have HA := Aside0.mk h
    have HS0 := Aside0.mk hst
    generalize hgo : (fun p => shape_run.f k p) = go at HA
    have Hgo := Aside0.mk hgo
    have HG := Aside0.mk hg
    have HP := Aside0.mk hP
    have HPb : Aside0 (∀ k_, P k_ → w0.heap.size ≤ k_) := ⟨fun k_ hk => Kd.R_base hst.row k_ (hPu k_ hk)⟩
    have HPu := Aside0.mk hPu
    clear h hgo hst hg hP hPu
    go_enter Try.func70, Try.ntmps70
    go_wp2_with fail
    go_loopw [12] (fun i wr => ∃ (j : Nat) (v1 : List Int) (t1 : Int), j ≤ l0.length ∧ i = .int .i64 j ∧ Aside0 (runLoop k go (l0.drop j) v1 t1 = some r) ∧ Aside0 (RunSt w0 w wr P gt u v1 t1)) (fun i _ => l0.length - (intOf i).toNat)
    case atStart => exact ⟨0, v, t, by omega, rfl, HA, HS0⟩
    case round =>
      obtain ⟨j, v1, t1, hj, rfl, HL, HS⟩ := hrel
      by_cases hjt : j < l0.length
      · obtain ⟨ad, A2, c2, A3, c3, A4, c4, e0, h0, h1, h2, h3, h4, lc2, hC2, lc3, hC3, lc4, hC4⟩ := T127_at HR.out j hjt
        cases e0
        have hL := HL.out
        rw [runLoop_at _ _ hjt] at hL
        generalize l0.getD j z127 = x at h0 h1 h2 h3 h4 lc2 hC2 lc3 hC3 lc4 hC4 hL
        replace h0 := (HS.out.below.cell (World.block_lt_of_cell? w0 _ h0)).trans h0
        replace h1 := (HS.out.below.cell (World.block_lt_of_cell? w0 _ h1)).trans h1
        replace h2 := (HS.out.below.cell (World.block_lt_of_cell? w0 _ h2)).trans h2
        replace h3 := (HS.out.below.cell (World.block_lt_of_cell? w0 _ h3)).trans h3
        replace h4 := (HS.out.below.cell (World.block_lt_of_cell? w0 _ h4)).trans h4
        obtain ⟨o, ho, hrest⟩ := Option.bind_eq_some_iff.1 hL
        have L2 := hC2.2.1
        have L3 := hC3.2.1
        have L4 := hC4.2.1
        have H2 := Aside0.mk hC2
        have H3 := Aside0.mk hC3
        have H4 := Aside0.mk hC4
        have Hc2 := Aside0.mk lc2
        have Hc3 := Aside0.mk lc3
        have Hc4 := Aside0.mk lc4
        have HO := Aside0.mk ho
        have HE := Aside0.mk hrest
        clear hC2 hC3 hC4 lc2 lc3 lc4 hL HL ho hrest HA
        have HS1 := Aside0.mk (HS.out.alloc (.cells #[.int .i64 x.f0, .int .i64 x.f1, .slice A2 x.f2.length c2, .slice A3 x.f3.length c3, .slice A4 x.f4.length c4] 127))
        by_cases k1 : x.f0 = 1
        · have hkb : (x.f0 == 1) = true := by simp [k1]
          have ho := HO.out
          rw [runOne, if_pos k1] at ho
          obtain ⟨v2, hv, ho⟩ := Option.bind_eq_some_iff.1 ho
          obtain rfl : (v2, t1, true) = o := Option.some.inj ho
          have hrest := HE.out
          simp only [if_true] at hrest
          have HV := Aside0.mk hv
          have HQ := Aside0.mk hrest
          clear k1 ho hv hrest HO HE
          go_wp2_with (go_at_call 77; refine (block_Do.calls k _ _ x.f2 P u v1 v2 w0 _ HS1.out.below (fun W_ hk => k111_heap.C (fun i hi => (hk.2 i (Nat.lt_of_lt_of_le hi HS1.out.below.size) (fun hp => absurd (HPb.out i hp) (by omega))).trans (HS1.out.below.block i hi)) H2.out) Hc2.out HS1.out.row HV.out).mono ?_; rintro e w3 ⟨rfl, hr3, hb3, hk3⟩)
          have HS3 := Aside0.mk (HS1.out.did HP.out hr3 hb3 hk3)
          go_roundw
          case rel => exact ⟨j + 1, _, _, by omega, by go_num, HQ, HS3⟩
          case measure => simp [intOf]; omega
        · have hkb : (x.f0 == 1) = false := by simp [k1]
          by_cases k2 : x.f0 = 2
          · have hkc : (x.f0 == 2) = true := by simp [k2]
            have ho := HO.out
            rw [runOne, if_neg k1, if_pos k2] at ho
            by_cases hin : 0 ≤ x.f1 ∧ x.f1 < v1.length
            · rw [if_pos hin] at ho
              obtain ⟨i0, i1⟩ := hin
              obtain ⟨gv, cap, rfl, hgv, _, _, _⟩ := Kd.R_form HS1.out.row (by omega)
              have hcv := HS1.out.row
              obtain ⟨_, hvc, hCv⟩ := Kd.R_reads' hcv
              obtain ⟨adv, ev, hx⟩ := int_at hCv x.f1.toNat (by omega)
              cases ev
              rw [add_plain] at hx
              by_cases hz : v1.getD x.f1.toNat 0 = 0
              · have hzb : (v1.getD x.f1.toNat 0 == 0) = true := by rw [hz]; rfl
                rw [if_pos hz, ← Hgo.out] at ho
                have HO2 := Aside0.mk ho
                clear ho hcv hCv hvc hz HO k1 k2
                generalize v1.getD x.f1.toNat 0 = y at hx hzb
                obtain ⟨v2, t2, b⟩ := o
                cases b
                · have hrest := HE.out
                  simp only [Bool.false_eq_true, if_false, Option.some.injEq] at hrest
                  subst hrest
                  go_wp2_with (go_at_call 70; refine (IH.out _ _ _ _ _ _ _ _ _ w0 _ H4.out Hc4.out HS1.out.mine' HG.out HP.out HPu.out HO2.out).mono ?_; rintro e w3 ⟨rfl, hs3⟩)
                  go_ret
                  exact ⟨rfl, HS1.out.mine hs3⟩
                · have hrest := HE.out
                  simp only [if_true] at hrest
                  have HQ := Aside0.mk hrest
                  clear hrest HE
                  go_wp2_with (go_at_call 70; refine (IH.out _ _ _ _ _ _ _ _ _ w0 _ H4.out Hc4.out HS1.out.mine' HG.out HP.out HPu.out HO2.out).mono ?_; rintro e w3 ⟨rfl, hs3⟩)
                  have HS3 := Aside0.mk (HS1.out.mine hs3)
                  go_roundw
                  case rel => exact ⟨j + 1, _, _, by omega, by go_num, HQ, HS3⟩
                  case measure => simp [intOf]; omega
              · have hzb : (v1.getD x.f1.toNat 0 == 0) = false := beq_eq_false_iff_ne.mpr hz
                rw [if_neg hz, ← Hgo.out] at ho
                have HO2 := Aside0.mk ho
                clear ho hcv hCv hvc hz HO k1 k2
                generalize v1.getD x.f1.toNat 0 = y at hx hzb
                obtain ⟨v2, t2, b⟩ := o
                cases b
                · have hrest := HE.out
                  simp only [Bool.false_eq_true, if_false, Option.some.injEq] at hrest
                  subst hrest
                  go_wp2_with (go_at_call 70; refine (IH.out _ _ _ _ _ _ _ _ _ w0 _ H3.out Hc3.out HS1.out.mine' HG.out HP.out HPu.out HO2.out).mono ?_; rintro e w3 ⟨rfl, hs3⟩)
                  go_ret
                  exact ⟨rfl, HS1.out.mine hs3⟩
                · have hrest := HE.out
                  simp only [if_true] at hrest
                  have HQ := Aside0.mk hrest
                  clear hrest HE
                  go_wp2_with (go_at_call 70; refine (IH.out _ _ _ _ _ _ _ _ _ w0 _ H3.out Hc3.out HS1.out.mine' HG.out HP.out HPu.out HO2.out).mono ?_; rintro e w3 ⟨rfl, hs3⟩)
                  have HS3 := Aside0.mk (HS1.out.mine hs3)
                  go_roundw
                  case rel => exact ⟨j + 1, _, _, by omega, by go_num, HQ, HS3⟩
                  case measure => simp [intOf]; omega
            · rw [if_neg hin] at ho
              cases ho
          · have hkc : (x.f0 == 2) = false := by simp [k2]
            by_cases k3 : x.f0 = 3
            · have hkd : (x.f0 == 3) = true := by simp [k3]
              have ho := HO.out
              rw [runOne, if_neg k1, if_neg k2, if_pos k3, ← Hgo.out] at ho
              have HW := Aside0.mk ho
              have hbx : Aside0 ((wr.alloc (.cells #[.int .i64 x.f0, .int .i64 x.f1, .slice A2 x.f2.length c2, .slice A3 x.f3.length c3, .slice A4 x.f4.length c4] 127)).heap[wr.heap.size]? = some (.cells #[.int .i64 x.f0, .int .i64 x.f1, .slice A2 x.f2.length c2, .slice A3 x.f3.length c3, .slice A4 x.f4.length c4] 127 (0, 0))) := ⟨blk_new wr _⟩
              obtain ⟨wo, hwo⟩ : ∃ wo : World, wo = wr := ⟨_, rfl⟩
              subst hwo
              have HE2 := HE
              clear ho HO k1 k2 k3
              go_wp2_with fail
              go_loopg [] k (fun kq w' => ∃ (v2 : List Int) (t2 : Int), Aside0 (runWhile (shape_run.f k x.f3) x.f1 kq v2 t2 = some o) ∧ Aside0 (RunSt w0 w w' P gt u v2 t2) ∧ Aside0 (w'.heap[wo.heap.size]? = some (.cells #[.int .i64 x.f0, .int .i64 x.f1, .slice A2 x.f2.length c2, .slice A3 x.f3.length c3, .slice A4 x.f4.length c4] 127 (0, 0))))
              case atStart => exact ⟨_, _, HW, HS1, hbx⟩
              case round =>
                clear HS1 hbx HW HS h0 h1 h2 h3 h4
                obtain ⟨v2, t2, HW, HS1, hbx⟩ := hrel
                have hW := HW.out
                cases gk with
                | zero => cases hW
                | succ k1 =>
                rw [runWhile] at hW
                by_cases hin : 0 ≤ x.f1 ∧ x.f1 < v2.length
                · rw [if_pos hin] at hW
                  obtain ⟨i0, i1⟩ := hin
                  have hnx := HS1.out.apart HPu.out hbx.out
                  have g0 : wr.cell? ⟨wo.heap.size, 0, none⟩ = some (.int .i64 x.f0) := (blk_cell hbx.out 0).trans rfl
                  have g1 : wr.cell? ⟨wo.heap.size, 1, none⟩ = some (.int .i64 x.f1) := (blk_cell hbx.out 1).trans rfl
                  have g3 : wr.cell? ⟨wo.heap.size, 3, none⟩ = some (.slice A3 x.f3.length c3) := (blk_cell hbx.out 3).trans rfl
                  have ht : wr.cell? ⟨gt, 0, none⟩ = some (.int .i64 t2) := (blk_cell HS1.out.turn 0).trans rfl
                  have hft := blk_frozen HS1.out.turn 0
                  obtain ⟨gv, cap, rfl, hgv, _, _, _⟩ := Kd.R_form HS1.out.row (by omega)
                  obtain ⟨_, hvc, hCv⟩ := Kd.R_reads' HS1.out.row
                  obtain ⟨adv, ev, hx⟩ := int_at hCv x.f1.toNat (by omega)
                  cases ev
                  rw [add_plain] at hx
                  have HN := Aside0.mk hnx
                  clear hnx hCv
                  by_cases hz : v2.getD x.f1.toNat 0 = 0
                  · have hzb : (v2.getD x.f1.toNat 0 != 0) = false := by rw [hz]; rfl
                    rw [if_pos hz] at hW
                    obtain rfl : (v2, t2, true) = o := Option.some.inj hW
                    have hrest := HE.out
                    simp only [if_true] at hrest
                    have HQ := Aside0.mk hrest
                    clear hrest HE HE2 hW HW hz
                    generalize v2.getD x.f1.toNat 0 = y at hx hzb
                    go_wp2
                    go_roundw
                    case rel => exact ⟨j + 1, _, _, by omega, by go_num, HQ, HS1⟩
                    case measure => simp [intOf]; omega
                  · have hzb : (v2.getD x.f1.toNat 0 != 0) = true := bne_iff_ne.mpr hz
                    rw [if_neg hz] at hW
                    have hW' := Aside0.mk hW
                    clear hW HW hz
                    generalize v2.getD x.f1.toNat 0 = y at hx hzb
                    have hW := hW'.out
                    by_cases hs : wrap64 (t2 - 1) < 0
                    · rw [if_pos hs] at hW
                      have hsb : decide (wrap64 (t2 - 1) < 0) = true := decide_eq_true hs
                      obtain rfl : (v2, wrap64 (t2 - 1), false) = o := Option.some.inj hW
                      have hrest := HE.out
                      simp only [Bool.false_eq_true, if_false, Option.some.injEq] at hrest
                      subst hrest
                      clear hW hW' HE HE2 hs
                      go_wp2_with ((with_reducible refine gate_store (t := 3) (p := 53) rfl ?_); refine store_event (t := 3) (p := 53) (v := ?vo_w12) (w1 := (wr.setCell ⟨gt, 0, none⟩ (.int .i64 (wrap64 (t2 - 1))))) ?hg ?ho ?hn ?hr ?_; (case ho => rfl); (case hg => rfl); (case hn => rfl); (case hr => first | (go_simp; done) | (go_simp; rfl)); intro w12 hw; have HS2 : Aside0 (RunSt w0 w w12 P gt (.slice (some ⟨gv, 0, none⟩) v2.length cap) v2 (wrap64 (t2 - 1))) := ⟨by rw [hw]; exact HS1.out.setTurn HG.out HP.out _⟩; have hbx2 : Aside0 (w12.heap[wo.heap.size]? = some (.cells #[.int .i64 x.f0, .int .i64 x.f1, .slice A2 x.f2.length c2, .slice A3 x.f3.length c3, .slice A4 x.f4.length c4] 127 (0, 0))) := ⟨by rw [hw]; exact blk_far hbx.out (fun e => HN.out (.inr e)) _⟩; clear hw; have q3 : w12.cell? ⟨wo.heap.size, 3, none⟩ = some (.slice A3 x.f3.length c3) := (blk_cell hbx2.out 3).trans rfl; have qt : w12.cell? ⟨gt, 0, none⟩ = some (.int .i64 (wrap64 (t2 - 1))) := (blk_cell HS2.out.turn 0).trans rfl)
                      go_ret
                      exact ⟨rfl, HS2.out⟩
                    · rw [if_neg hs] at hW
                      have hsb : decide (wrap64 (t2 - 1) < 0) = false := decide_eq_false hs
                      obtain ⟨⟨v3, t3, b⟩, hB, hW⟩ := Option.bind_eq_some_iff.1 hW
                      have HB := Aside0.mk hB
                      have HW := Aside0.mk hW
                      clear hW hB hW' hs
                      cases b
                      · have hW := HW.out
                        simp only [Bool.false_eq_true, if_false, Option.some.injEq] at hW
                        subst hW
                        have hrest := HE.out
                        simp only [Bool.false_eq_true, if_false, Option.some.injEq] at hrest
                        subst hrest
                        clear HW HE HE2
                        go_wp2_with (first | ((with_reducible refine gate_store (t := 3) (p := 53) rfl ?_); refine store_event (t := 3) (p := 53) (v := ?vo_w12) (w1 := (wr.setCell ⟨gt, 0, none⟩ (.int .i64 (wrap64 (t2 - 1))))) ?hg ?ho ?hn ?hr ?_; (case ho => rfl); (case hg => rfl); (case hn => rfl); (case hr => first | (go_simp; done) | (go_simp; rfl)); intro w12 hw; have HS2 : Aside0 (RunSt w0 w w12 P gt (.slice (some ⟨gv, 0, none⟩) v2.length cap) v2 (wrap64 (t2 - 1))) := ⟨by rw [hw]; exact HS1.out.setTurn HG.out HP.out _⟩; have hbx2 : Aside0 (w12.heap[wo.heap.size]? = some (.cells #[.int .i64 x.f0, .int .i64 x.f1, .slice A2 x.f2.length c2, .slice A3 x.f3.length c3, .slice A4 x.f4.length c4] 127 (0, 0))) := ⟨by rw [hw]; exact blk_far hbx.out (fun e => HN.out (.inr e)) _⟩; clear hw; have q3 : w12.cell? ⟨wo.heap.size, 3, none⟩ = some (.slice A3 x.f3.length c3) := (blk_cell hbx2.out 3).trans rfl; have qt : w12.cell? ⟨gt, 0, none⟩ = some (.int .i64 (wrap64 (t2 - 1))) := (blk_cell HS2.out.turn 0).trans rfl) | (go_at_call 70; refine (IH.out _ _ _ _ _ _ _ _ _ w0 _ H3.out Hc3.out HS2.out.mine' HG.out HP.out HPu.out HB.out).mono ?_; rintro e w3 ⟨rfl, hs3⟩))
                        go_ret
                        exact ⟨rfl, HS2.out.mine hs3⟩
                      · have hW := HW.out
                        simp only [if_true] at hW
                        have HW2 := Aside0.mk hW
                        clear hW HW
                        go_wp2_with (first | ((with_reducible refine gate_store (t := 3) (p := 53) rfl ?_); refine store_event (t := 3) (p := 53) (v := ?vo_w12) (w1 := (wr.setCell ⟨gt, 0, none⟩ (.int .i64 (wrap64 (t2 - 1))))) ?hg ?ho ?hn ?hr ?_; (case ho => rfl); (case hg => rfl); (case hn => rfl); (case hr => first | (go_simp; done) | (go_simp; rfl)); intro w12 hw; have HS2 : Aside0 (RunSt w0 w w12 P gt (.slice (some ⟨gv, 0, none⟩) v2.length cap) v2 (wrap64 (t2 - 1))) := ⟨by rw [hw]; exact HS1.out.setTurn HG.out HP.out _⟩; have hbx2 : Aside0 (w12.heap[wo.heap.size]? = some (.cells #[.int .i64 x.f0, .int .i64 x.f1, .slice A2 x.f2.length c2, .slice A3 x.f3.length c3, .slice A4 x.f4.length c4] 127 (0, 0))) := ⟨by rw [hw]; exact blk_far hbx.out (fun e => HN.out (.inr e)) _⟩; clear hw; have q3 : w12.cell? ⟨wo.heap.size, 3, none⟩ = some (.slice A3 x.f3.length c3) := (blk_cell hbx2.out 3).trans rfl; have qt : w12.cell? ⟨gt, 0, none⟩ = some (.int .i64 (wrap64 (t2 - 1))) := (blk_cell HS2.out.turn 0).trans rfl) | (go_at_call 70; refine (IH.out _ _ _ _ _ _ _ _ _ w0 _ H3.out Hc3.out HS2.out.mine' HG.out HP.out HPu.out HB.out).mono ?_; rintro e w3 ⟨rfl, hs3⟩))
                        go_roundg k1
                        case measure => omega
                        case rel => exact ⟨v3, t3, HW2, ⟨HS2.out.mine hs3⟩, ⟨blk_kept hbx2.out hs3.kept (HS2.out.apart HPu.out hbx2.out)⟩⟩
                · rw [if_neg hin] at hW
                  cases hW
            · have hkd : (x.f0 == 3) = false := by simp [k3]
              have ho := HO.out
              rw [runOne, if_neg k1, if_neg k2, if_neg k3] at ho
              obtain rfl : (v1, t1, true) = o := Option.some.inj ho
              have hrest := HE.out
              simp only [if_true] at hrest
              have HQ := Aside0.mk hrest
              clear hrest HE HO ho k1 k2 k3
              go_wp2
              go_roundw
              case rel => exact ⟨j + 1, _, _, by omega, by go_num, HQ, HS1⟩
              case measure => simp [intOf]; omega
      · have hL := HL.out
        rw [List.drop_of_length_le (by omega)] at hL
        simp only [runLoop, Option.some.injEq] at hL
        subst hL
        clear HL HA
        go_wp2
        go_ret
        exact ⟨rfl, HS.out⟩
end Go.Proofs.Ytaicamjpcnhjcaa.PA
namespace Go.Proofs.Ytaicamjpcnhjcaa.PA
open Go.RowKit Go.Proofs.YtaicamjpcnhjcaaW.PrintWords Go.Proofs.YtaicamjpcnhjcaaW.PrintLast Go.Proofs.YtaicamjpcnhjcaaW.PrintMore
set_option linter.unusedVariables false
set_option linter.unusedSimpArgs false
def shape_Run.f (k : Nat) (a0 : Int) (l1 : List S127) (l2 : List Int) : Option (List Int × Int) :=
  (shape_Check.f k a0 l1).bind fun e => if e ≠ 0 then some ([], e) else (term_Have.f a0 l2).bind fun e2 => if e2 ≠ 0 then some ([], e2) else if l2.length < 17592186044416 then (shape_run.f k l1 l2 200).bind fun o => if o.2.2 = true then some (o.1, 0) else some ([], 7) else none
theorem shape_Run.mono : ∀ a0 a1 a2 k, LeO (shape_Run.f k a0 a1 a2) (shape_Run.f (k + 1) a0 a1 a2) := fun a0 a1 a2 k => by
  unfold shape_Run.f
  exact LeO.bind (shape_Check.mono _ _ _) (fun e => LeO.ite (LeO.refl _) (LeO.bind (LeO.refl _) (fun e2 => LeO.ite (LeO.refl _) (LeO.ite (LeO.bind (shape_run.mono _ _ _ _) (fun o => LeO.refl _)) (LeO.refl _)))))
set_option maxRecDepth 100000 in
set_option maxHeartbeats 4000000 in
theorem shape_Run.calls (k : Nat) (a0 : Int) (A1 : Option Addr) (c1 : Nat) (l1 : List S127) (A2 : Option Addr) (c2 : Nat) (l2 : List Int) (r1 : List Int) (r2 : Int) (w : World) (hr1 : Kd.C k127 w A1 l1.length l1) (hc1 : l1.length ≤ c1) (hr2 : Kd.C (Kd.int .i64) w A2 l2.length l2) (hc2 : l2.length ≤ c2) (h : shape_Run.f k a0 l1 l2 = some (r1, r2)) :
    Calls Try.prog 21 #[.int .i64 a0, .slice A1 l1.length c1, .slice A2 l2.length c2] w fun e w' => ∃ v0_ : Value, e = .returned (.tuple #[v0_, .int .i64 r2]) ∧ Kd.R (Kd.int .i64) 3 w' w.heap.size (fun _ => True) v0_ r1 ∧ Below w.heap.size w w' := by
  have HR1 := Aside0.mk hr1
  have HR2 := Aside0.mk hr2
  have HC1 := Aside0.mk hc1
  have HC2 := Aside0.mk hc2
  clear hr1 hr2 hc1 hc2
  unfold shape_Run.f at h
  obtain ⟨e1, he1, h⟩ := Option.bind_eq_some_iff.1 h
  have E1 := Aside0.mk he1
  clear he1
  by_cases c1 : e1 ≠ 0
  · rw [if_pos c1] at h
    obtain ⟨rfl, rfl⟩ : [] = r1 ∧ e1 = r2 := by simpa using h
    have cb : (e1 != 0) = true := bne_iff_ne.mpr c1
    clear h c1
    go_enter Try.func21, Try.ntmps21
    go_wp2_with (go_at_call 49; refine (shape_Check.calls k _ _ _ l1 e1 _ HR1.out HC1.out E1.out).mono ?_; rintro e w2 ⟨rfl, hb2⟩)
    go_ret2
    exact ⟨_, rfl, Kd.R_nil _ _ _ _ _, hb2⟩
  · rw [if_neg c1] at h
    have cb : (e1 != 0) = false := by simpa using c1
    obtain ⟨e2, he2, h⟩ := Option.bind_eq_some_iff.1 h
    have E2 := Aside0.mk he2
    clear he2 c1
    by_cases c3 : e2 ≠ 0
    · rw [if_pos c3] at h
      obtain ⟨rfl, rfl⟩ : [] = r1 ∧ e2 = r2 := by simpa using h
      have cb2 : (e2 != 0) = true := bne_iff_ne.mpr c3
      clear h c3
      go_enter Try.func21, Try.ntmps21
      go_wp2_with (go_at_call 49; refine (shape_Check.calls k _ _ _ l1 e1 _ HR1.out HC1.out E1.out).mono ?_; rintro e w2 ⟨rfl, hb2⟩; have HB2 := Aside0.mk hb2; clear hb2)
      go_wp2_with (go_at_call 69; refine (term_Have.calls _ _ _ l2 e2 _ (Kd.C_below HR2.out HB2.out) HC2.out E2.out).mono ?_; rintro e w3 ⟨rfl, hb3⟩; have HB3 := Aside0.mk (below_step HB2.out hb3); clear hb3)
      go_ret2
      exact ⟨_, rfl, Kd.R_nil _ _ _ _ _, HB3.out⟩
    · rw [if_neg c3] at h
      have cb2 : (e2 != 0) = false := by simpa using c3
      by_cases hlm : l2.length < 17592186044416
      · rw [if_pos hlm] at h
        obtain ⟨⟨v9, t9, b9⟩, h9, h⟩ := Option.bind_eq_some_iff.1 h
        have H9 := Aside0.mk h9
        have LM := Aside0.mk hlm
        have HF := Aside0.mk h
        clear h h9 hlm c3
        cases b9
        · have hf := HF.out
          simp at hf
          obtain ⟨rfl, rfl⟩ := hf
          go_enter Try.func21, Try.ntmps21
          go_wp2_with (first | (go_at_call 49; refine (shape_Check.calls k _ _ _ l1 e1 _ HR1.out HC1.out E1.out).mono ?_; rintro e w2 ⟨rfl, hb2⟩; have HB2 := Aside0.mk hb2; clear hb2) | (go_at_call 69; refine (term_Have.calls _ _ _ l2 e2 _ (Kd.C_below HR2.out HB2.out) HC2.out E2.out).mono ?_; rintro e w3 ⟨rfl, hb3⟩; have HB3 := Aside0.mk (below_step HB2.out hb3); clear hb3) | ((with_reducible refine gate_dst (N := 24) rfl ?_); refine Kd.R_lit (Kd.int .i64) _ 3 ?hg (N := 24) ?hd (xs := ([] : List Int)) (inner := []) (ok := fun _ => True) (okp := fun _ => True) ?hr ?hp (fun _ hk => hk) trivial (Below.refl _ _) (Nat.le_refl _) (by simp) ?_; (case hd => rfl); (case hg => rfl); (case hr => first | (go_simp; done) | (go_simp; rfl)); (case hp => exact (Reps.none _ _)); intro v4 w4 ho5 hb hg_ hnew_; clear hg_ hnew_; have HO4 := Aside0.mk (Kd.R_lower ho5 HB3.out.size); have HB4 := Aside0.mk (below_step HB3.out hb); clear hb ho5) | ((with_reducible refine gate_builtin (b := .append) (xs := #[.tmp 24, .tmp 25]) rfl ?_); at_builtin; refine Kd.R_append_rows (Kd.int .i64) (w0 := w) w.heap.size rfl (.tmp 24) (.tmp 25) 23 3 (.int .i64 0) 8 rfl Try.underlying23 info3 rfl (by decide) (by omega) v4 [] l2 _ _ _ (fun _ => True) (fun _ => False) rfl rfl ?aO ?aR (fun _ _ h => h) (fun _ h => h.elim) ?aF ?aB ?aS ?aL ?_; (case aR => exact Kd.C_below HR2.out HB4.out); (case aB => exact HB4.out); (case aF => exact (fun _ _ => trivial)); (case aO => exact HO4.out); (case aS => exact HB4.out.size); (case aL => have := LM.out; simp; omega); intro v6 w6 ho hb hg hat; have HB6 := Aside0.mk hb; have HO6 := Aside0.mk ho; clear ho hb hg hat) | (go_at_call 70; refine (shape_run.calls k _ _ l1 (fun k_ => v6.ownBlock = some k_) v6 l2 w6.heap.size 200 _ w _ HR1.out HC1.out ⟨Kd.R_reok rfl (Kd.R_alloc HO6.out _) (fun _ h => h), blk_new _ _, below_alloc HB6.out _, Kept.refl _ _⟩ HB6.out.size (fun hp => by have := ((Kd.R_bound HO6.out).1 _ hp).2.2.1; omega) (fun _ h => h) H9.out).mono ?_; rintro e w9 ⟨rfl, hs9⟩))
          go_ret2
          exact ⟨_, rfl, Kd.R_nil _ _ _ _ _, hs9.below⟩
        · have hf := HF.out
          simp at hf
          obtain ⟨rfl, rfl⟩ := hf
          go_enter Try.func21, Try.ntmps21
          go_wp2_with (first | (go_at_call 49; refine (shape_Check.calls k _ _ _ l1 e1 _ HR1.out HC1.out E1.out).mono ?_; rintro e w2 ⟨rfl, hb2⟩; have HB2 := Aside0.mk hb2; clear hb2) | (go_at_call 69; refine (term_Have.calls _ _ _ l2 e2 _ (Kd.C_below HR2.out HB2.out) HC2.out E2.out).mono ?_; rintro e w3 ⟨rfl, hb3⟩; have HB3 := Aside0.mk (below_step HB2.out hb3); clear hb3) | ((with_reducible refine gate_dst (N := 24) rfl ?_); refine Kd.R_lit (Kd.int .i64) _ 3 ?hg (N := 24) ?hd (xs := ([] : List Int)) (inner := []) (ok := fun _ => True) (okp := fun _ => True) ?hr ?hp (fun _ hk => hk) trivial (Below.refl _ _) (Nat.le_refl _) (by simp) ?_; (case hd => rfl); (case hg => rfl); (case hr => first | (go_simp; done) | (go_simp; rfl)); (case hp => exact (Reps.none _ _)); intro v4 w4 ho5 hb hg_ hnew_; clear hg_ hnew_; have HO4 := Aside0.mk (Kd.R_lower ho5 HB3.out.size); have HB4 := Aside0.mk (below_step HB3.out hb); clear hb ho5) | ((with_reducible refine gate_builtin (b := .append) (xs := #[.tmp 24, .tmp 25]) rfl ?_); at_builtin; refine Kd.R_append_rows (Kd.int .i64) (w0 := w) w.heap.size rfl (.tmp 24) (.tmp 25) 23 3 (.int .i64 0) 8 rfl Try.underlying23 info3 rfl (by decide) (by omega) v4 [] l2 _ _ _ (fun _ => True) (fun _ => False) rfl rfl ?aO ?aR (fun _ _ h => h) (fun _ h => h.elim) ?aF ?aB ?aS ?aL ?_; (case aR => exact Kd.C_below HR2.out HB4.out); (case aB => exact HB4.out); (case aF => exact (fun _ _ => trivial)); (case aO => exact HO4.out); (case aS => exact HB4.out.size); (case aL => have := LM.out; simp; omega); intro v6 w6 ho hb hg hat; have HB6 := Aside0.mk hb; have HO6 := Aside0.mk ho; clear ho hb hg hat) | (go_at_call 70; refine (shape_run.calls k _ _ l1 (fun k_ => v6.ownBlock = some k_) v6 l2 w6.heap.size 200 _ w _ HR1.out HC1.out ⟨Kd.R_reok rfl (Kd.R_alloc HO6.out _) (fun _ h => h), blk_new _ _, below_alloc HB6.out _, Kept.refl _ _⟩ HB6.out.size (fun hp => by have := ((Kd.R_bound HO6.out).1 _ hp).2.2.1; omega) (fun _ h => h) H9.out).mono ?_; rintro e w9 ⟨rfl, hs9⟩))
          go_ret2
          exact ⟨_, rfl, Kd.R_mono hs9.row (fun _ _ => trivial), hs9.below⟩
      · rw [if_neg hlm] at h
        cases h
end Go.Proofs.Ytaicamjpcnhjcaa.PA
namespace Go.Proofs.Ytaicamjpcnhjcaa.PA
open Go.RowKit Go.Proofs.YtaicamjpcnhjcaaW.PrintWords Go.Proofs.YtaicamjpcnhjcaaW.PrintLast Go.Proofs.YtaicamjpcnhjcaaW.PrintMore
set_option linter.unusedVariables false
set_option linter.unusedSimpArgs false
def codemasonref_Ints.l0 : Nat → List Int → List Int → Int → Option (Bool)
  | 0, _, _, _ => none
  | k + 1, x0, x1, x5 => if x5 < (x0.length : Int) then (if 0 ≤ x5 then (if x5 < (x1.length : Int) then (if (rd x0 x5) = (rd x1 x5) then (codemasonref_Ints.l0 k x0 x1 (wrap64 (x5 + 1))) else (some false)) else (none)) else (none)) else (some true)
def codemasonref_Ints.f (k : Nat) (l0 : List Int) (l1 : List Int) : Option (Bool) := if (l0.length : Int) = (l1.length : Int) then (codemasonref_Ints.l0 k l0 l1 0) else (some false)
theorem codemasonref_Ints.mono_l : ∀ k, (∀ y0 y1 y2, LeO (codemasonref_Ints.l0 k y0 y1 y2) (codemasonref_Ints.l0 (k + 1) y0 y1 y2))
  | 0 => fun _ _ _ r h => by simp [codemasonref_Ints.l0] at h
  | k + 1 => by
    have ih0 := codemasonref_Ints.mono_l k
    · intro y0 y1 y2
      unfold codemasonref_Ints.l0
      repeat' first
      | (with_reducible exact ih0 _ _ _)
      | (with_reducible exact LeO.refl _)
      | (with_reducible exact LeO.none _)
      | (with_reducible refine LeO.ite ?_ ?_)
      | (with_reducible refine LeO.bind ?_ (fun _ => ?_))
      | exact ih0 _ _ _
      | exact LeO.none _
      | refine LeO.ite ?_ ?_
      | refine LeO.bind ?_ (fun _ => ?_)
theorem codemasonref_Ints.mono : ∀ a0 a1 k, LeO (codemasonref_Ints.f k a0 a1) (codemasonref_Ints.f (k + 1) a0 a1) := by
  intro a0 a1 k
  have ih0 := codemasonref_Ints.mono_l k
  unfold codemasonref_Ints.f
  repeat' first
      | (with_reducible exact ih0 _ _ _)
      | (with_reducible exact LeO.refl _)
      | (with_reducible exact LeO.none _)
      | (with_reducible refine LeO.ite ?_ ?_)
      | (with_reducible refine LeO.bind ?_ (fun _ => ?_))
      | exact ih0 _ _ _
      | exact LeO.none _
      | refine LeO.ite ?_ ?_
      | refine LeO.bind ?_ (fun _ => ?_)
set_option maxHeartbeats 8000000 in
set_option maxRecDepth 100000 in
theorem codemasonref_Ints.calls (k : Nat) (A0 : Option Addr) (c0 : Nat) (l0 : List Int) (A1 : Option Addr) (c1 : Nat) (l1 : List Int) (r : Bool) (w : World) (hr0 : Kd.C (Kd.int .i64) w A0 l0.length l0) (hc0 : l0.length ≤ c0) (hr1 : Kd.C (Kd.int .i64) w A1 l1.length l1) (hc1 : l1.length ≤ c1) (h : codemasonref_Ints.f k l0 l1 = some r) :
    Calls Try.prog 24 #[.slice A0 l0.length c0, .slice A1 l1.length c1] w fun e w' => e = .returned (.bool r) ∧ Drawn0 w w' := by
  have HR0 := Aside0.mk hr0
  have HC0 := Aside0.mk hc0
  clear hr0 hc0
  have HR1 := Aside0.mk hr1
  have HC1 := Aside0.mk hc1
  clear hr1 hc1
  have H : (if (l0.length : Int) = (l1.length : Int) then (codemasonref_Ints.l0 k l0 l1 0) else (some false)) = some r := h
  clear h
  by_cases c3 : (l0.length : Int) = (l1.length : Int)
  · rw [if_pos c3] at H
    have c3b0 : ((l0.length : Int) == (l1.length : Int)) = true := beq_iff_eq.mpr c3
    have c3b1 : ((l0.length : Int) != (l1.length : Int)) = false := bne_eq_false_iff_eq.mpr c3
    have c3b2 : (l0.length == l1.length) = true := by first | simpa using c3 | (simp at c3 ⊢; omega)
    clear c3
    have H' := Aside0.mk H
    clear H
    go_enter Try.func24, Try.ntmps24
    go_wp2
    repeat (go_quiet (fail); try go_wp2)
    go_loopg [5] k (fun kq v5 w' => ∃ (x5_1 : Int), v5 = .int .i64 x5_1 ∧ Aside0 (codemasonref_Ints.l0 kq l0 l1 x5_1 = some r) ∧ Aside0 (kq ≤ k) ∧ Drawn0 w w')
    case atStart => exact ⟨(0), (by first | rfl | (simp; done) | (simp [*]; done)), H', ⟨Nat.le_refl _⟩, by repeat (first | exact Drawn0.refl _ | apply Drawn0.step)⟩
    case round =>
      clear H'
      try clear c1
      try clear c2
      try clear p2
      try clear c3
      try clear c3b0
      try clear c3b1
      try clear c3b2
      obtain ⟨x5_1, rfl, HA, HK1, ⟨m1, rfl⟩⟩ := hrel
      cases gk with
      | zero => exact absurd HA.out (by simp [codemasonref_Ints.l0])
      | succ k1 =>
        have H := HA.out
        clear HA
        simp only [codemasonref_Ints.l0] at H
        by_cases c4 : x5_1 < (l0.length : Int)
        · rw [if_pos c4] at H
          have c4b0 : decide (x5_1 < (l0.length : Int)) = true := decide_eq_true c4
          clear c4
          by_cases c5 : 0 ≤ x5_1
          · rw [if_pos c5] at H
            have c5b0 : decide (0 ≤ x5_1) = true := decide_eq_true c5
            clear c5
            by_cases c6 : x5_1 < (l1.length : Int)
            · rw [if_pos c6] at H
              have c6b0 : decide (x5_1 < (l1.length : Int)) = true := decide_eq_true c6
              clear c6
              by_cases c7 : (rd l0 x5_1) = (rd l1 x5_1)
              · rw [if_pos c7] at H
                have c7b0 : ((rd l0 x5_1) == (rd l1 x5_1)) = true := beq_iff_eq.mpr c7
                have c7b1 : ((rd l0 x5_1) != (rd l1 x5_1)) = false := bne_eq_false_iff_eq.mpr c7
                clear c7
                have H' := Aside0.mk H
                clear H
                have p248 : 0 ≤ (x5_1 : Int) := of_decide_eq_true (by first | (with_reducible assumption) | assumption)
                have q248 : x5_1 < (l0.length : Int) := of_decide_eq_true (by first | (with_reducible assumption) | assumption)
                obtain ⟨ad248, e248, hx248_0⟩ := Kd.at_int HR0.out x5_1 p248 q248
                cases e248
                replace p248 := eq_true p248
                replace q248 := eq_true q248
                have p249 : 0 ≤ (x5_1 : Int) := of_decide_eq_true (by first | (with_reducible assumption) | assumption)
                have q249 : x5_1 < (l1.length : Int) := of_decide_eq_true (by first | (with_reducible assumption) | assumption)
                obtain ⟨ad249, e249, hx249_0⟩ := Kd.at_int HR1.out x5_1 p249 q249
                cases e249
                replace p249 := eq_true p249
                replace q249 := eq_true q249
                go_wp2
                repeat (go_quiet (fail); try go_wp2)
                go_roundg k1
                case measure => have := HK1.out; omega
                case rel => exact ⟨(wrap64 (x5_1 + 1)), (by first | rfl | (simp; done) | (simp [*]; done)), H', ⟨by have := HK1.out; omega⟩, by repeat (first | exact Drawn0.refl _ | apply Drawn0.step)⟩
              · rw [if_neg c7] at H
                have c7b0 : ((rd l0 x5_1) == (rd l1 x5_1)) = false := beq_eq_false_iff_ne.mpr c7
                have c7b1 : ((rd l0 x5_1) != (rd l1 x5_1)) = true := bne_iff_ne.mpr c7
                obtain rfl := Option.some.inj H
                have p248 : 0 ≤ (x5_1 : Int) := of_decide_eq_true (by first | (with_reducible assumption) | assumption)
                have q248 : x5_1 < (l0.length : Int) := of_decide_eq_true (by first | (with_reducible assumption) | assumption)
                obtain ⟨ad248, e248, hx248_0⟩ := Kd.at_int HR0.out x5_1 p248 q248
                cases e248
                replace p248 := eq_true p248
                replace q248 := eq_true q248
                have p249 : 0 ≤ (x5_1 : Int) := of_decide_eq_true (by first | (with_reducible assumption) | assumption)
                have q249 : x5_1 < (l1.length : Int) := of_decide_eq_true (by first | (with_reducible assumption) | assumption)
                obtain ⟨ad249, e249, hx249_0⟩ := Kd.at_int HR1.out x5_1 p249 q249
                cases e249
                replace p249 := eq_true p249
                replace q249 := eq_true q249
                go_wp2
                repeat (go_quiet (fail); try go_wp2)
                go_ret
                exact ⟨by first | rfl | (simp; done) | (simp [*]; done), by repeat (first | exact Drawn0.refl _ | apply Drawn0.step)⟩
            · rw [if_neg c6] at H
              exact absurd H (by simp)
          · rw [if_neg c5] at H
            exact absurd H (by simp)
        · rw [if_neg c4] at H
          have c4b0 : decide (x5_1 < (l0.length : Int)) = false := decide_eq_false c4
          clear c4
          obtain rfl := Option.some.inj H
          go_wp2
          repeat (go_quiet (fail); try go_wp2)
          go_ret
          exact ⟨by first | rfl | (simp; done) | (simp [*]; done), by repeat (first | exact Drawn0.refl _ | apply Drawn0.step)⟩
  · rw [if_neg c3] at H
    have c3b0 : ((l0.length : Int) == (l1.length : Int)) = false := beq_eq_false_iff_ne.mpr c3
    have c3b1 : ((l0.length : Int) != (l1.length : Int)) = true := bne_iff_ne.mpr c3
    have c3b2 : (l0.length == l1.length) = false := by first | simpa using c3 | (simp at c3 ⊢; omega)
    obtain rfl := Option.some.inj H
    go_enter Try.func24, Try.ntmps24
    go_wp2
    repeat (go_quiet (fail); try go_wp2)
    go_ret
    exact ⟨by first | rfl | (simp; done) | (simp [*]; done), by repeat (first | exact Drawn0.refl _ | apply Drawn0.step)⟩
end Go.Proofs.Ytaicamjpcnhjcaa.PA
namespace Go.Proofs.Ytaicamjpcnhjcaa.PA
open Go.RowKit Go.Proofs.YtaicamjpcnhjcaaW.PrintWords Go.Proofs.YtaicamjpcnhjcaaW.PrintLast Go.Proofs.YtaicamjpcnhjcaaW.PrintMore
set_option linter.unusedVariables false
set_option linter.unusedSimpArgs false
def codemasonref_Value.f (a0 : Int) : Option (Bool) := if a0 ≥ 0 then (some (decide (a0 ≤ 255))) else (some false)
set_option maxHeartbeats 8000000 in
set_option maxRecDepth 100000 in
theorem codemasonref_Value.calls (a0 : Int) (r : Bool) (w : World) (h : codemasonref_Value.f a0 = some r) :
    Calls Try.prog 82 #[.int .i64 a0] w fun e w' => e = .returned (.bool r) ∧ Drawn0 w w' := by
  have H : (if a0 ≥ 0 then (some (decide (a0 ≤ 255))) else (some false)) = some r := h
  clear h
  by_cases c2 : a0 ≥ 0
  · rw [if_pos c2] at H
    have c2b0 : decide (0 ≤ a0) = true := decide_eq_true c2
    clear c2
    obtain rfl := Option.some.inj H
    go_enter Try.func82, Try.ntmps82
    go_wp2
    go_ret
    exact ⟨by first | rfl | (simp; done) | (simp [*]; done), by repeat (first | exact Drawn0.refl _ | apply Drawn0.step)⟩
  · rw [if_neg c2] at H
    have c2b0 : decide (0 ≤ a0) = false := decide_eq_false c2
    clear c2
    obtain rfl := Option.some.inj H
    go_enter Try.func82, Try.ntmps82
    go_wp2
    go_ret
    exact ⟨by first | rfl | (simp; done) | (simp [*]; done), by repeat (first | exact Drawn0.refl _ | apply Drawn0.step)⟩
end Go.Proofs.Ytaicamjpcnhjcaa.PA
namespace Go.Proofs.Ytaicamjpcnhjcaa.PA
open Go.RowKit Go.Proofs.YtaicamjpcnhjcaaW.PrintWords Go.Proofs.YtaicamjpcnhjcaaW.PrintLast Go.Proofs.YtaicamjpcnhjcaaW.PrintMore
set_option linter.unusedVariables false
set_option linter.unusedSimpArgs false
def codemasonref_HaveCheck.l0 : Nat → List Int → Int → Int → Option (Int)
  | 0, _, _, _ => none
  | k + 1, x11, x12, x13 => if x13 < x12 then (if 0 ≤ x13 then (if x13 < (x11.length : Int) then ((codemasonref_Value.f (rd x11 x13)).bind fun t390 => (if t390 = true then (codemasonref_HaveCheck.l0 k x11 x12 (wrap64 (x13 + 1))) else (some 4))) else (none)) else (none)) else (some 0)
def codemasonref_HaveCheck.f (k : Nat) (a0 : Int) (l1 : List Int) : Option (Int) := if (l1.length : Int) = a0 then (codemasonref_HaveCheck.l0 k l1 (l1.length : Int) 0) else (some 3)
theorem codemasonref_HaveCheck.mono_l : ∀ k, (∀ y0 y1 y2, LeO (codemasonref_HaveCheck.l0 k y0 y1 y2) (codemasonref_HaveCheck.l0 (k + 1) y0 y1 y2))
  | 0 => fun _ _ _ r h => by simp [codemasonref_HaveCheck.l0] at h
  | k + 1 => by
    have ih0 := codemasonref_HaveCheck.mono_l k
    · intro y0 y1 y2
      unfold codemasonref_HaveCheck.l0
      repeat' first
      | (with_reducible exact ih0 _ _ _)
      | (with_reducible exact LeO.refl _)
      | (with_reducible exact LeO.none _)
      | (with_reducible refine LeO.ite ?_ ?_)
      | (with_reducible refine LeO.bind ?_ (fun _ => ?_))
      | exact ih0 _ _ _
      | exact LeO.none _
      | refine LeO.ite ?_ ?_
      | refine LeO.bind ?_ (fun _ => ?_)
theorem codemasonref_HaveCheck.mono : ∀ a0 a1 k, LeO (codemasonref_HaveCheck.f k a0 a1) (codemasonref_HaveCheck.f (k + 1) a0 a1) := by
  intro a0 a1 k
  have ih0 := codemasonref_HaveCheck.mono_l k
  unfold codemasonref_HaveCheck.f
  repeat' first
      | (with_reducible exact ih0 _ _ _)
      | (with_reducible exact LeO.refl _)
      | (with_reducible exact LeO.none _)
      | (with_reducible refine LeO.ite ?_ ?_)
      | (with_reducible refine LeO.bind ?_ (fun _ => ?_))
      | exact ih0 _ _ _
      | exact LeO.none _
      | refine LeO.ite ?_ ?_
      | refine LeO.bind ?_ (fun _ => ?_)
set_option maxHeartbeats 8000000 in
set_option maxRecDepth 100000 in
theorem codemasonref_HaveCheck.calls (k : Nat) (a0 : Int) (A1 : Option Addr) (c1 : Nat) (l1 : List Int) (r : Int) (w : World) (hr1 : Kd.C (Kd.int .i64) w A1 l1.length l1) (hc1 : l1.length ≤ c1) (h : codemasonref_HaveCheck.f k a0 l1 = some r) :
    Calls Try.prog 33 #[.int .i64 a0, .slice A1 l1.length c1] w fun e w' => e = .returned (.int .i64 r) ∧ Drawn0 w w' := by
  have HR1 := Aside0.mk hr1
  have HC1 := Aside0.mk hc1
  clear hr1 hc1
  have H : (if (l1.length : Int) = a0 then (codemasonref_HaveCheck.l0 k l1 (l1.length : Int) 0) else (some 3)) = some r := h
  clear h
  by_cases c3 : (l1.length : Int) = a0
  · rw [if_pos c3] at H
    have c3b0 : ((l1.length : Int) == a0) = true := beq_iff_eq.mpr c3
    have c3b1 : ((l1.length : Int) != a0) = false := bne_eq_false_iff_eq.mpr c3
    clear c3
    have H' := Aside0.mk H
    clear H
    go_enter Try.func33, Try.ntmps33
    go_wp2
    go_loopg [13] k (fun kq v13 w' => ∃ (x13_1 : Int), v13 = .int .i64 x13_1 ∧ Aside0 (codemasonref_HaveCheck.l0 kq l1 (l1.length : Int) x13_1 = some r) ∧ Aside0 (kq ≤ k) ∧ Drawn0 w w')
    case atStart => exact ⟨(0), (by first | rfl | (simp; done) | (simp [*]; done)), H', ⟨Nat.le_refl _⟩, by repeat (first | exact Drawn0.refl _ | apply Drawn0.step)⟩
    case round =>
      clear H'
      try clear c1
      try clear p2
      try clear c3
      try clear c3b0
      try clear c3b1
      obtain ⟨x13_1, rfl, HA, HK1, ⟨m1, rfl⟩⟩ := hrel
      cases gk with
      | zero => exact absurd HA.out (by simp [codemasonref_HaveCheck.l0])
      | succ k1 =>
        have H := HA.out
        clear HA
        simp only [codemasonref_HaveCheck.l0] at H
        by_cases c4 : x13_1 < (l1.length : Int)
        · rw [if_pos c4] at H
          have c4b0 : decide (x13_1 < (l1.length : Int)) = true := decide_eq_true c4
          clear c4
          by_cases c5 : 0 ≤ x13_1
          · rw [if_pos c5] at H
            have c5b0 : decide (0 ≤ x13_1) = true := decide_eq_true c5
            clear c5
            by_cases c6 : x13_1 < (l1.length : Int)
            · rw [if_pos c6] at H
              have c6b0 : decide (x13_1 < (l1.length : Int)) = true := decide_eq_true c6
              clear c6
              replace H := Option.bind_eq_some_iff.mp H
              obtain ⟨t390, A70, H⟩ := H
              replace H : (if t390 = true then (codemasonref_HaveCheck.l0 k1 l1 (l1.length : Int) (wrap64 (x13_1 + 1))) else (some 4)) = some r := H
              have A7 := Aside0.mk A70
              clear A70
              by_cases c8 : t390 = true
              · subst c8
                have H1 : (codemasonref_HaveCheck.l0 k1 l1 (l1.length : Int) (wrap64 (x13_1 + 1))) = some r := by rw [if_pos rfl] at H; exact H
                clear H
                have H := H1
                clear H1
                have H' := Aside0.mk H
                clear H
                have p389 : 0 ≤ (x13_1 : Int) := of_decide_eq_true (by first | (with_reducible assumption) | assumption)
                have q389 : x13_1 < (l1.length : Int) := of_decide_eq_true (by first | (with_reducible assumption) | assumption)
                obtain ⟨ad389, e389, hx389_0⟩ := Kd.at_int HR1.out x13_1 p389 q389
                cases e389
                replace p389 := eq_true p389
                replace q389 := eq_true q389
                go_wp2_with (first | ((with_reducible refine gate_callee (f := 82) rfl ?_); refine goesL_ (some 18) rfl rfl Try.func82 (by kernel_rfl) rfl #[.int .i64 (rd l1 x13_1)] rfl (by (try simp only [List.map_toArray, List.map_cons, List.map_nil]); first | done | rfl | (simp only [List.length_drop, List.length_take]; rfl)) ?_; (with_reducible refine (codemasonref_Value.calls (rd l1 x13_1) true _ A7.out).mono ?_); rintro e w' ⟨rfl, ⟨nd, rfl⟩⟩; refine ⟨_, rfl, ?_⟩))
                go_roundg k1
                case measure => have := HK1.out; omega
                case rel => exact ⟨(wrap64 (x13_1 + 1)), (by first | rfl | (simp; done) | (simp [*]; done)), H', ⟨by have := HK1.out; omega⟩, by repeat (first | exact Drawn0.refl _ | apply Drawn0.step)⟩
              · replace c8 := Bool.eq_false_iff.mpr c8
                subst c8
                have H1 : (some 4) = some r := by rw [if_neg (show ¬ (false = true) by decide)] at H; exact H
                clear H
                have H := H1
                clear H1
                obtain rfl := Option.some.inj H
                have p389 : 0 ≤ (x13_1 : Int) := of_decide_eq_true (by first | (with_reducible assumption) | assumption)
                have q389 : x13_1 < (l1.length : Int) := of_decide_eq_true (by first | (with_reducible assumption) | assumption)
                obtain ⟨ad389, e389, hx389_0⟩ := Kd.at_int HR1.out x13_1 p389 q389
                cases e389
                replace p389 := eq_true p389
                replace q389 := eq_true q389
                go_wp2_with (first | ((with_reducible refine gate_callee (f := 82) rfl ?_); refine goesL_ (some 18) rfl rfl Try.func82 (by kernel_rfl) rfl #[.int .i64 (rd l1 x13_1)] rfl (by (try simp only [List.map_toArray, List.map_cons, List.map_nil]); first | done | rfl | (simp only [List.length_drop, List.length_take]; rfl)) ?_; (with_reducible refine (codemasonref_Value.calls (rd l1 x13_1) false _ A7.out).mono ?_); rintro e w' ⟨rfl, ⟨nd, rfl⟩⟩; refine ⟨_, rfl, ?_⟩))
                go_ret
                exact ⟨by first | rfl | (simp; done) | (simp [*]; done), by repeat (first | exact Drawn0.refl _ | apply Drawn0.step)⟩
            · rw [if_neg c6] at H
              exact absurd H (by simp)
          · rw [if_neg c5] at H
            exact absurd H (by simp)
        · rw [if_neg c4] at H
          have c4b0 : decide (x13_1 < (l1.length : Int)) = false := decide_eq_false c4
          clear c4
          obtain rfl := Option.some.inj H
          go_wp2
          go_ret
          exact ⟨by first | rfl | (simp; done) | (simp [*]; done), by repeat (first | exact Drawn0.refl _ | apply Drawn0.step)⟩
  · rw [if_neg c3] at H
    have c3b0 : ((l1.length : Int) == a0) = false := beq_eq_false_iff_ne.mpr c3
    have c3b1 : ((l1.length : Int) != a0) = true := bne_iff_ne.mpr c3
    obtain rfl := Option.some.inj H
    go_enter Try.func33, Try.ntmps33
    go_wp2
    go_ret
    exact ⟨by first | rfl | (simp; done) | (simp [*]; done), by repeat (first | exact Drawn0.refl _ | apply Drawn0.step)⟩
end Go.Proofs.Ytaicamjpcnhjcaa.PA
namespace Go.Proofs.Ytaicamjpcnhjcaa.PA
open Go.RowKit Go.Proofs.YtaicamjpcnhjcaaW.PrintWords Go.Proofs.YtaicamjpcnhjcaaW.PrintLast Go.Proofs.YtaicamjpcnhjcaaW.PrintMore
set_option linter.unusedVariables false
set_option linter.unusedSimpArgs false
mutual
def codemasonref_Op.j0 : Nat → Int → Int → Int → Int → Option (Int)
  | 0, _, _, _, _ => none
  | k + 1, x0, x1, x2, x7 => if x0 = 4 then (codemasonref_Op.j1 k x0 x1 x2 (wrap64 ((wrap64 (x1 - x2)) + 256))) else (codemasonref_Op.j1 k x0 x1 x2 x7)
def codemasonref_Op.j1 : Nat → Int → Int → Int → Int → Option (Int)
  | 0, _, _, _, _ => none
  | k + 1, x0, x1, x2, x7 => if x0 = 5 then (if x0 = 6 then (if x1 < x2 then (some ((1 : Int) % 256)) else (some (Int.tmod (wrap64 (x1 * x2)) 256))) else (some (Int.tmod (wrap64 (x1 * x2)) 256))) else (if x0 = 6 then (if x1 < x2 then (some ((1 : Int) % 256)) else (some (Int.tmod x7 256))) else (some (Int.tmod x7 256)))
end
def codemasonref_Op.f (k : Nat) (a0 : Int) (a1 : Int) (a2 : Int) : Option (Int) := if a0 = 3 then (codemasonref_Op.j0 k a0 a1 a2 (wrap64 (a1 + a2))) else (codemasonref_Op.j0 k a0 a1 a2 0)
theorem codemasonref_Op.mono_l : ∀ k, (∀ y0 y1 y2 y3, LeO (codemasonref_Op.j0 k y0 y1 y2 y3) (codemasonref_Op.j0 (k + 1) y0 y1 y2 y3)) ∧ (∀ y0 y1 y2 y3, LeO (codemasonref_Op.j1 k y0 y1 y2 y3) (codemasonref_Op.j1 (k + 1) y0 y1 y2 y3))
  | 0 => ⟨fun _ _ _ _ r h => by simp [codemasonref_Op.j0] at h, fun _ _ _ _ r h => by simp [codemasonref_Op.j1] at h⟩
  | k + 1 => by
    obtain ⟨ih0, ih1⟩ := codemasonref_Op.mono_l k
    refine ⟨?_, ?_⟩
    · intro y0 y1 y2 y3
      unfold codemasonref_Op.j0
      repeat' first
      | (with_reducible exact ih0 _ _ _ _)
      | (with_reducible exact ih1 _ _ _ _)
      | (with_reducible exact LeO.refl _)
      | (with_reducible exact LeO.none _)
      | (with_reducible refine LeO.ite ?_ ?_)
      | (with_reducible refine LeO.bind ?_ (fun _ => ?_))
      | exact ih0 _ _ _ _
      | exact ih1 _ _ _ _
      | exact LeO.none _
      | refine LeO.ite ?_ ?_
      | refine LeO.bind ?_ (fun _ => ?_)
    · intro y0 y1 y2 y3
      unfold codemasonref_Op.j1
      repeat' first
      | (with_reducible exact ih0 _ _ _ _)
      | (with_reducible exact ih1 _ _ _ _)
      | (with_reducible exact LeO.refl _)
      | (with_reducible exact LeO.none _)
      | (with_reducible refine LeO.ite ?_ ?_)
      | (with_reducible refine LeO.bind ?_ (fun _ => ?_))
      | exact ih0 _ _ _ _
      | exact ih1 _ _ _ _
      | exact LeO.none _
      | refine LeO.ite ?_ ?_
      | refine LeO.bind ?_ (fun _ => ?_)
theorem codemasonref_Op.mono : ∀ a0 a1 a2 k, LeO (codemasonref_Op.f k a0 a1 a2) (codemasonref_Op.f (k + 1) a0 a1 a2) := by
  intro a0 a1 a2 k
  obtain ⟨ih0, ih1⟩ := codemasonref_Op.mono_l k
  unfold codemasonref_Op.f
  repeat' first
      | (with_reducible exact ih0 _ _ _ _)
      | (with_reducible exact ih1 _ _ _ _)
      | (with_reducible exact LeO.refl _)
      | (with_reducible exact LeO.none _)
      | (with_reducible refine LeO.ite ?_ ?_)
      | (with_reducible refine LeO.bind ?_ (fun _ => ?_))
      | exact ih0 _ _ _ _
      | exact ih1 _ _ _ _
      | exact LeO.none _
      | refine LeO.ite ?_ ?_
      | refine LeO.bind ?_ (fun _ => ?_)
set_option maxHeartbeats 8000000 in
set_option maxRecDepth 100000 in
theorem codemasonref_Op.calls (k : Nat) (a0 : Int) (a1 : Int) (a2 : Int) (r : Int) (w : World) (h : codemasonref_Op.f k a0 a1 a2 = some r) :
    Calls Try.prog 105 #[.int .i64 a0, .int .i64 a1, .int .i64 a2] w fun e w' => e = .returned (.int .i64 r) ∧ Drawn0 w w' := by
  have H : (if a0 = 3 then (codemasonref_Op.j0 k a0 a1 a2 (wrap64 (a1 + a2))) else (codemasonref_Op.j0 k a0 a1 a2 0)) = some r := h
  clear h
  have HC4 := Aside0.mk H
  clear H
  go_enter Try.func105, Try.ntmps105
  go_upto_if 9 with (fail)
  go_cut [7] (fun v7 wc => ∃ (kq : Nat) (x7_3 : Int), v7 = .int .i64 x7_3 ∧ Aside0 (codemasonref_Op.j0 kq a0 a1 a2 x7_3 = some r) ∧ Aside0 (kq ≤ k) ∧ Drawn0 w wc)
  case first =>
    have H := HC4.out
    clear HC4
    by_cases c5 : a0 = 3
    · rw [if_pos c5] at H
      have c5b0 : (a0 == 3) = true := beq_iff_eq.mpr c5
      have c5b1 : (a0 != 3) = false := bne_eq_false_iff_eq.mpr c5
      clear c5
      (first | rw [c5b0] | (simp only [i64_w, i32_w]; rw [c5b0]) | skip)
      have H' := Aside0.mk H
      clear H
      go_wp2
      go_meet
      case rel => exact ⟨_, (wrap64 (a1 + a2)), (by first | rfl | (simp; done) | (simp [*]; done)), H', ⟨by first | omega | exact Nat.le_refl _⟩, by repeat (first | exact Drawn0.refl _ | apply Drawn0.step)⟩
    · rw [if_neg c5] at H
      have c5b0 : (a0 == 3) = false := beq_eq_false_iff_ne.mpr c5
      have c5b1 : (a0 != 3) = true := bne_iff_ne.mpr c5
      (first | rw [c5b0] | (simp only [i64_w, i32_w]; rw [c5b0]) | skip)
      have H' := Aside0.mk H
      clear H
      go_wp2
      go_meet
      case rel => exact ⟨_, (0), (by first | rfl | (simp; done) | (simp [*]; done)), H', ⟨by first | omega | exact Nat.le_refl _⟩, by repeat (first | exact Drawn0.refl _ | apply Drawn0.step)⟩
  case rest =>
    clear HC4
    try clear c1
    try clear p2
    try clear c5
    try clear c5b0
    try clear c5b1
    obtain ⟨kq, x7_3, rfl, HA, HJ3, ⟨mc3, rfl⟩⟩ := hcut
    cases kq with
    | zero => exact absurd HA.out (by simp [codemasonref_Op.j0])
    | succ kj3 =>
      have H := HA.out
      clear HA
      simp only [codemasonref_Op.j0] at H
      have HC6 := Aside0.mk H
      clear H
      go_upto_if 14 with (fail)
      go_cut [7] (fun v7 wc => ∃ (kq : Nat) (x7_5 : Int), v7 = .int .i64 x7_5 ∧ Aside0 (codemasonref_Op.j1 kq a0 a1 a2 x7_5 = some r) ∧ Aside0 (kq ≤ kj3) ∧ Drawn0 w wc)
      case first =>
        have H := HC6.out
        clear HC6
        by_cases c7 : a0 = 4
        · rw [if_pos c7] at H
          have c7b0 : (a0 == 4) = true := beq_iff_eq.mpr c7
          have c7b1 : (a0 != 4) = false := bne_eq_false_iff_eq.mpr c7
          clear c7
          (first | rw [c7b0] | (simp only [i64_w, i32_w]; rw [c7b0]) | skip)
          have H' := Aside0.mk H
          clear H
          go_wp2
          go_meet
          case rel => exact ⟨_, (wrap64 ((wrap64 (a1 - a2)) + 256)), (by first | rfl | (simp; done) | (simp [*]; done)), H', ⟨by have := HJ3.out; first | omega | exact Nat.le_refl _⟩, by repeat (first | exact Drawn0.refl _ | apply Drawn0.step)⟩
        · rw [if_neg c7] at H
          have c7b0 : (a0 == 4) = false := beq_eq_false_iff_ne.mpr c7
          have c7b1 : (a0 != 4) = true := bne_iff_ne.mpr c7
          (first | rw [c7b0] | (simp only [i64_w, i32_w]; rw [c7b0]) | skip)
          have H' := Aside0.mk H
          clear H
          go_wp2
          go_meet
          case rel => exact ⟨_, (x7_3), (by first | rfl | (simp; done) | (simp [*]; done)), H', ⟨by have := HJ3.out; first | omega | exact Nat.le_refl _⟩, by repeat (first | exact Drawn0.refl _ | apply Drawn0.step)⟩
      case rest =>
        clear HC6
        try clear c1
        try clear p2
        try clear c3
        try clear c5
        try clear c5b0
        try clear c5b1
        try clear p6
        try clear c7
        try clear c7b0
        try clear c7b1
        try clear p2
        obtain ⟨kq, x7_5, rfl, HA, HJ5, ⟨mc5, rfl⟩⟩ := hcut
        cases kq with
        | zero => exact absurd HA.out (by simp [codemasonref_Op.j1])
        | succ kj5 =>
          have H := HA.out
          clear HA
          simp only [codemasonref_Op.j1] at H
          by_cases c8 : a0 = 5
          · rw [if_pos c8] at H
            have c8b0 : (a0 == 5) = true := beq_iff_eq.mpr c8
            have c8b1 : (a0 != 5) = false := bne_eq_false_iff_eq.mpr c8
            clear c8
            by_cases c9 : a0 = 6
            · rw [if_pos c9] at H
              have c9b0 : (a0 == 6) = true := beq_iff_eq.mpr c9
              have c9b1 : (a0 != 6) = false := bne_eq_false_iff_eq.mpr c9
              clear c9
              by_cases c10 : a1 < a2
              · rw [if_pos c10] at H
                have c10b0 : decide (a1 < a2) = true := decide_eq_true c10
                clear c10
                obtain rfl := Option.some.inj H
                go_wp2
                go_ret
                exact ⟨by first | rfl | (simp; done) | (simp [*]; done), by repeat (first | exact Drawn0.refl _ | apply Drawn0.step)⟩
              · rw [if_neg c10] at H
                have c10b0 : decide (a1 < a2) = false := decide_eq_false c10
                clear c10
                obtain rfl := Option.some.inj H
                go_wp2
                go_ret
                exact ⟨by first | rfl | (simp; done) | (simp [*]; done), by repeat (first | exact Drawn0.refl _ | apply Drawn0.step)⟩
            · rw [if_neg c9] at H
              have c9b0 : (a0 == 6) = false := beq_eq_false_iff_ne.mpr c9
              have c9b1 : (a0 != 6) = true := bne_iff_ne.mpr c9
              obtain rfl := Option.some.inj H
              go_wp2
              go_ret
              exact ⟨by first | rfl | (simp; done) | (simp [*]; done), by repeat (first | exact Drawn0.refl _ | apply Drawn0.step)⟩
          · rw [if_neg c8] at H
            have c8b0 : (a0 == 5) = false := beq_eq_false_iff_ne.mpr c8
            have c8b1 : (a0 != 5) = true := bne_iff_ne.mpr c8
            by_cases c11 : a0 = 6
            · rw [if_pos c11] at H
              have c11b0 : (a0 == 6) = true := beq_iff_eq.mpr c11
              have c11b1 : (a0 != 6) = false := bne_eq_false_iff_eq.mpr c11
              clear c11
              by_cases c12 : a1 < a2
              · rw [if_pos c12] at H
                have c12b0 : decide (a1 < a2) = true := decide_eq_true c12
                clear c12
                obtain rfl := Option.some.inj H
                go_wp2
                go_ret
                exact ⟨by first | rfl | (simp; done) | (simp [*]; done), by repeat (first | exact Drawn0.refl _ | apply Drawn0.step)⟩
              · rw [if_neg c12] at H
                have c12b0 : decide (a1 < a2) = false := decide_eq_false c12
                clear c12
                obtain rfl := Option.some.inj H
                go_wp2
                go_ret
                exact ⟨by first | rfl | (simp; done) | (simp [*]; done), by repeat (first | exact Drawn0.refl _ | apply Drawn0.step)⟩
            · rw [if_neg c11] at H
              have c11b0 : (a0 == 6) = false := beq_eq_false_iff_ne.mpr c11
              have c11b1 : (a0 != 6) = true := bne_iff_ne.mpr c11
              obtain rfl := Option.some.inj H
              go_wp2
              go_ret
              exact ⟨by first | rfl | (simp; done) | (simp [*]; done), by repeat (first | exact Drawn0.refl _ | apply Drawn0.step)⟩
end Go.Proofs.Ytaicamjpcnhjcaa.PA
