/- Small lemmas for the contracts that are written by hand: cells by natural indices, ends of calls, lists cut at an index. -/
import Derived.Test.YtaicamjpcnhjcaaPA0
namespace Go.Proofs.Ytaicamjpcnhjcaa.PA
open Go.RowKit Go.Proofs.YtaicamjpcnhjcaaW.PrintWords Go.Proofs.YtaicamjpcnhjcaaW.PrintLast Go.Proofs.YtaicamjpcnhjcaaW.PrintMore
set_option linter.unusedVariables false
set_option linter.unusedSimpArgs false

theorem ret_int {k : IntKind} {a b : Int} (h : a = b) : Ending.returned (Value.int k a) = .returned (.int k b) := by rw [h]
theorem ret_bool {a b : Bool} (h : a = b) : Ending.returned (Value.bool a) = .returned (.bool b) := by rw [h]
theorem drop_at {α : Type} (d : α) {l : List α} {k : Nat} (h : k < l.length) : l.drop k = l.getD k d :: l.drop (k + 1) := by
  rw [List.drop_eq_getElem_cons h, List.getD_eq_getElem?_getD, List.getElem?_eq_getElem h]; rfl
theorem take_at {α : Type} (d : α) {l : List α} {k : Nat} (h : k < l.length) : l.take (k + 1) = l.take k ++ [l.getD k d] := by
  rw [List.take_succ_eq_append_getElem h, List.getD_eq_getElem?_getD, List.getElem?_eq_getElem h]; rfl
theorem nat_wrap {k : Nat} (h : k < 9223372036854775807) : wrap64 ((k : Int) + 1) = ((k + 1 : Nat) : Int) := by unfold wrap64; omega

theorem box_cell {w wr : World} {v : Value} {t : TypeId} (hb : Below (w.heap.size + 1) (w.alloc (.cells #[v] t)) wr) : wr.cell? ⟨w.heap.size, 0, none⟩ = some v :=
  (hb.cell (p := ⟨w.heap.size, 0, none⟩) (by simp)).trans (by simp [go_sem])
theorem box_cells {w wr : World} {cs : Array Value} {t : TypeId} (hb : Below (w.heap.size + 1) (w.alloc (.cells cs t)) wr) (j : Nat) {v : Value} (hv : cs[j]? = some v) : wr.cell? ⟨w.heap.size, j, none⟩ = some v :=
  (hb.cell (p := ⟨w.heap.size, j, none⟩) (by simp)).trans (by simp [go_sem, hv])
theorem below_box {w wr : World} {o : Obj} (hb : Below (w.heap.size + 1) (w.alloc o) wr) : Below w.heap.size w wr := ((Below.refl _ _).alloc (Nat.le_refl _) _).trans (hb.mono (Nat.le_succ _))
theorem below_alloc_then {B N : Nat} {w w1 w2 : World} {o : Obj} (h : Below B w w1) (hB : B ≤ w1.heap.size) (k : Below N (w1.alloc o) w2) (hN : B ≤ N) : Below B w w2 := (h.alloc hB o).trans (k.mono hN)
theorem box_size {w wr : World} {o : Obj} (hb : Below (w.heap.size + 1) (w.alloc o) wr) : w.heap.size + 1 ≤ wr.heap.size := by simpa using hb.size
section
variable {w : World} {A : Option Addr} {n : Nat}
theorem int_at {kd : IntKind} {xs : List Int} (h : Kd.C (Kd.int kd) w A n xs) (k : Nat) (hk : k < n) : ∃ ad, A = some ad ∧ w.cell? (ad.add k) = some (.int kd (xs.getD k 0)) := Kd.at_int h k (by omega) (by omega)
theorem L8_at {xs : List (List Int)} (h : Kd.C (Kd.slice 3 (Kd.int .i64)) w A n xs) (k : Nat) (hk : k < n) : ∃ ad A0 c0, A = some ad ∧ w.cell? (ad.add k) = some (.slice A0 (xs.getD k []).length c0) ∧ (xs.getD k []).length ≤ c0 ∧ (Kd.int .i64).C w A0 (xs.getD k []).length (xs.getD k []) := at_L8 h k (by omega) (by omega)
theorem T111_at {xs : List S111} (h : Kd.C k111 w A n xs) (k : Nat) (hk : k < n) : ∃ ad, A = some ad ∧ w.cell? (ad.add (k * 5)) = some (.int .i64 (xs.getD k z111).f0) ∧ w.cell? ⟨(ad.add (k * 5)).block, (ad.add (k * 5)).off + 1, none⟩ = some (.int .i64 (xs.getD k z111).f1) ∧ w.cell? ⟨(ad.add (k * 5)).block, (ad.add (k * 5)).off + 2, none⟩ = some (.int .i64 (xs.getD k z111).f2) ∧ w.cell? ⟨(ad.add (k * 5)).block, (ad.add (k * 5)).off + 3, none⟩ = some (.int .i64 (xs.getD k z111).f3) ∧ w.cell? ⟨(ad.add (k * 5)).block, (ad.add (k * 5)).off + 4, none⟩ = some (.int .i64 (xs.getD k z111).f4) := at_T111 h k (by omega) (by omega)
theorem T79_at {xs : List S79} (h : Kd.C k79 w A n xs) (k : Nat) (hk : k < n) : ∃ ad A0 c0, A = some ad ∧ w.cell? (ad.add (k * 4)) = some (.slice A0 (xs.getD k z79).f0.length c0) ∧ w.cell? ⟨(ad.add (k * 4)).block, (ad.add (k * 4)).off + 1, none⟩ = some (.int .i64 (xs.getD k z79).f1) ∧ w.cell? ⟨(ad.add (k * 4)).block, (ad.add (k * 4)).off + 2, none⟩ = some (.int .i64 (xs.getD k z79).f2) ∧ w.cell? ⟨(ad.add (k * 4)).block, (ad.add (k * 4)).off + 3, none⟩ = some (.int .i64 (xs.getD k z79).f3) ∧ (xs.getD k z79).f0.length ≤ c0 ∧ k111.C w A0 (xs.getD k z79).f0.length (xs.getD k z79).f0 := at_T79 h k (by omega) (by omega)
theorem T127_at {xs : List S127} (h : Kd.C k127 w A n xs) (k : Nat) (hk : k < n) : ∃ ad A2 c2 A3 c3 A4 c4, A = some ad ∧ w.cell? (ad.add (k * 5)) = some (.int .i64 (xs.getD k z127).f0) ∧ w.cell? ⟨(ad.add (k * 5)).block, (ad.add (k * 5)).off + 1, none⟩ = some (.int .i64 (xs.getD k z127).f1) ∧ w.cell? ⟨(ad.add (k * 5)).block, (ad.add (k * 5)).off + 2, none⟩ = some (.slice A2 (xs.getD k z127).f2.length c2) ∧ w.cell? ⟨(ad.add (k * 5)).block, (ad.add (k * 5)).off + 3, none⟩ = some (.slice A3 (xs.getD k z127).f3.length c3) ∧ w.cell? ⟨(ad.add (k * 5)).block, (ad.add (k * 5)).off + 4, none⟩ = some (.slice A4 (xs.getD k z127).f4.length c4) ∧ (xs.getD k z127).f2.length ≤ c2 ∧ k111.C w A2 (xs.getD k z127).f2.length (xs.getD k z127).f2 ∧ (xs.getD k z127).f3.length ≤ c3 ∧ k127.C w A3 (xs.getD k z127).f3.length (xs.getD k z127).f3 ∧ (xs.getD k z127).f4.length ≤ c4 ∧ k127.C w A4 (xs.getD k z127).f4.length (xs.getD k z127).f4 := at_T127 h k (by omega) (by omega)
theorem L7_at {xs : List (List S127)} (h : Kd.C (Kd.slice 127 k127) w A n xs) (k : Nat) (hk : k < n) : ∃ ad A0 c0, A = some ad ∧ w.cell? (ad.add k) = some (.slice A0 (xs.getD k []).length c0) ∧ (xs.getD k []).length ≤ c0 ∧ k127.C w A0 (xs.getD k []).length (xs.getD k []) := at_L7 h k (by omega) (by omega)
end
/-- A literal of two rows. -/
theorem two_rows {w : World} {g : Nat} {xs ys : List S127} {A B : Option Addr} {c d : Nat} (h1 : w.cell? ⟨g, 0, none⟩ = some (.slice A xs.length c)) (h2 : w.cell? ⟨g, 1, none⟩ = some (.slice B ys.length d))
    (k1 : xs.length ≤ c) (k2 : ys.length ≤ d) (r1 : k127.C w A xs.length xs) (r2 : k127.C w B ys.length ys) : Kd.C (Kd.slice 127 k127) w (some ⟨g, 0, none⟩) 2 [xs, ys] := by
  refine ⟨rfl, by omega, fun _ => ⟨_, rfl, fun j p hp => ?_⟩⟩
  match j, hp with
  | 0, hp => 
    obtain rfl : xs = p := by simpa using hp
    exact ⟨[.slice A xs.length c], rfl, ⟨A, c, rfl, k1, r1⟩, fun i u hu => by
      match i, hu with
      | 0, hu => obtain rfl : Value.slice A xs.length c = u := by simpa using hu
                 exact h1
      | i + 1, hu => simp at hu⟩
  | 1, hp =>
    obtain rfl : ys = p := by simpa using hp
    exact ⟨[.slice B ys.length d], rfl, ⟨B, d, rfl, k2, r2⟩, fun i u hu => by
      match i, hu with
      | 0, hu => obtain rfl : Value.slice B ys.length d = u := by simpa using hu
                 exact h2
      | i + 1, hu => simp at hu⟩
  | j + 2, hp => simp at hp
/-- A literal of one number. -/
theorem one_int {w : World} {g : Nat} {x : Int} (h0 : w.cell? ⟨g, 0, none⟩ = some (.int .i64 x)) : Kd.C (Kd.int .i64) w (some ⟨g, 0, none⟩) 1 [x] := by
  refine ⟨rfl, by omega, fun _ => ⟨_, rfl, fun j p hp => ?_⟩⟩
  match j, hp with
  | 0, hp =>
    obtain rfl : x = p := by simpa using hp
    exact ⟨[.int .i64 x], rfl, rfl, fun i u hu => by
      match i, hu with
      | 0, hu => obtain rfl : _ = u := by simpa using hu
                 exact h0
      | i + 1, hu => simp at hu⟩
  | j + 1, hp => simp at hp
/-- A literal of one block. -/
theorem one_block {w : World} {g : Nat} {b : S79} {A : Option Addr} {c : Nat} (h0 : w.cell? ⟨g, 0, none⟩ = some (.slice A b.f0.length c)) (h1 : w.cell? ⟨g, 1, none⟩ = some (.int .i64 b.f1)) (h2 : w.cell? ⟨g, 2, none⟩ = some (.int .i64 b.f2)) (h3 : w.cell? ⟨g, 3, none⟩ = some (.int .i64 b.f3))
    (k1 : b.f0.length ≤ c) (r1 : k111.C w A b.f0.length b.f0) : Kd.C k79 w (some ⟨g, 0, none⟩) 1 [b] := by
  refine ⟨rfl, by omega, fun _ => ⟨_, rfl, fun j p hp => ?_⟩⟩
  match j, hp with
  | 0, hp =>
    obtain rfl : b = p := by simpa using hp
    exact ⟨[.slice A b.f0.length c, .int .i64 b.f1, .int .i64 b.f2, .int .i64 b.f3], rfl, k79_mk w b k1 r1, fun i u hu => by
      rw [Nat.zero_mul, Nat.zero_add, add_plain]
      match i, hu with
      | 0, hu => obtain rfl : _ = u := by simpa using hu
                 exact h0
      | 1, hu => obtain rfl : _ = u := by simpa using hu
                 exact h1
      | 2, hu => obtain rfl : _ = u := by simpa using hu
                 exact h2
      | 3, hu => obtain rfl : _ = u := by simpa using hu
                 exact h3
      | i + 4, hu => simp at hu⟩
  | j + 1, hp => simp at hp
end Go.Proofs.Ytaicamjpcnhjcaa.PA
