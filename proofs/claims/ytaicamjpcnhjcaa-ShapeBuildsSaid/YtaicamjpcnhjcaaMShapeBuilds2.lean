/- Texts of one proof, merged: PA0, PA52, PA82, PA71, PA22, PA24, PA1, PA150, PA76, PA80, PA30, PA111. -/
import Derived.Test.YtaicamjpcnhjcaaMShapeBuilds1
import Derived.Laws.StructEq
import Derived.Test.YtaicamjpcnhjcaaProg
import Derived.Below
import Derived.Deep.Draws
import Derived.Deep.AppendLies
import Derived.Maps.AppendAt
import Derived.OwnWalk
import Derived.Laws.BytesArg
import Derived.Laws.MakeOwn
import Derived.Laws.OwnMore
import Derived.Deep.OwnRows
import Derived.Tactics
import Derived.Lib.ConvBytes
import Derived.Laws.Slices
import Derived.WalkKit
import Derived.KernelRfl
import Derived.RowKit3
import Derived.Deep.LoopGhost
import Derived.Deep.QuietTactic
import Derived.BigQuiet
import Derived.WideLaws
import Derived.Deep.DeepCutAuto
import Derived.Deep.CutBlock
import Derived.Deep.RegionHeld3
import Derived.Laws.Rows
import Derived.Lib.AppendStr
import Derived.ArgAppend
import Derived.Laws.IdiomCopy
import Derived.OrdersHeld
import Derived.Laws.BitsLemmas
import Derived.RowKit
namespace Go.Proofs.Ytaicamjpcnhjcaa.PA
open Go.RowKit Go.Proofs.YtaicamjpcnhjcaaW.PrintWords Go.Proofs.YtaicamjpcnhjcaaW.PrintLast Go.Proofs.YtaicamjpcnhjcaaW.PrintMore
set_option linter.unusedVariables false
set_option linter.unusedSimpArgs false
def errW : Option Int → Value
  | none => .nilIface
  | some c => .iface 0 (.int .i64 c)
theorem errW_none : errW none = .nilIface := rfl
theorem errW_some (c : Int) : errW (some c) = .iface 0 (.int .i64 c) := rfl
theorem info3 : (Try.prog.info? 3).map (fun i => (i.zero, i.size, i.bytes)) = some (some (.int .i64 0), 1, 8) := by kernel_rfl
theorem info111 : (Try.prog.info? 111).map (fun i => (i.zero, i.size, i.bytes)) = some (some (.agg #[(.int .i64 0), (.int .i64 0), (.int .i64 0), (.int .i64 0), (.int .i64 0)]), 5, 40) := by kernel_rfl
theorem info127 : (Try.prog.info? 127).map (fun i => (i.zero, i.size, i.bytes)) = some (some (.agg #[(.int .i64 0), (.int .i64 0), (.slice none 0 0), (.slice none 0 0), (.slice none 0 0)]), 5, 88) := by kernel_rfl
structure S111 where
  f0 : Int
  f1 : Int
  f2 : Int
  f3 : Int
  f4 : Int
def z111 : S111 := ⟨(0 : Int), (0 : Int), (0 : Int), (0 : Int), (0 : Int)⟩
def k111 : Kd S111 := Kd.iso (Kd.pair (Kd.int .i64) (Kd.pair (Kd.int .i64) (Kd.pair (Kd.int .i64) (Kd.pair (Kd.int .i64) (Kd.int .i64))))) (fun x : S111 => (x.f0, x.f1, x.f2, x.f3, x.f4))
theorem k111_open {w : World} {x : S111} {cs : List Value} (h : k111.K w x cs) : cs = [.int .i64 x.f0, .int .i64 x.f1, .int .i64 x.f2, .int .i64 x.f3, .int .i64 x.f4] := by
  obtain ⟨_, _, rfl, rfl, ⟨_, _, rfl, rfl, ⟨_, _, rfl, rfl, ⟨_, _, rfl, rfl, rfl⟩⟩⟩⟩ := h
  exact rfl
theorem k111_mk (w : World) (x : S111)  : k111.K w x [.int .i64 x.f0, .int .i64 x.f1, .int .i64 x.f2, .int .i64 x.f3, .int .i64 x.f4] := ⟨[.int .i64 x.f0], [.int .i64 x.f1, .int .i64 x.f2, .int .i64 x.f3, .int .i64 x.f4], rfl, rfl, ⟨[.int .i64 x.f1], [.int .i64 x.f2, .int .i64 x.f3, .int .i64 x.f4], rfl, rfl, ⟨[.int .i64 x.f2], [.int .i64 x.f3, .int .i64 x.f4], rfl, rfl, ⟨[.int .i64 x.f3], [.int .i64 x.f4], rfl, rfl, rfl⟩⟩⟩⟩
theorem k111_mkM (w : World) (base : Nat) (ok : Nat → Prop) (x : S111)  : k111.M w base ok x [.int .i64 x.f0, .int .i64 x.f1, .int .i64 x.f2, .int .i64 x.f3, .int .i64 x.f4] := ⟨[.int .i64 x.f0], [.int .i64 x.f1, .int .i64 x.f2, .int .i64 x.f3, .int .i64 x.f4], rfl, rfl, ⟨[.int .i64 x.f1], [.int .i64 x.f2, .int .i64 x.f3, .int .i64 x.f4], rfl, rfl, ⟨[.int .i64 x.f2], [.int .i64 x.f3, .int .i64 x.f4], rfl, rfl, ⟨[.int .i64 x.f3], [.int .i64 x.f4], rfl, rfl, rfl⟩⟩⟩⟩
def rd_T111 (xs : List S111) (i : Int) : S111 := xs.getD i.toNat z111
theorem at_T111 {w : World} {A : Option Addr} {n : Nat} {xs : List S111} (h : Kd.C k111 w A n xs) (i : Int) (h0 : 0 ≤ i) (h1 : i < n) : ∃ ad , A = some ad ∧ w.cell? (ad.add (i.toNat * 5)) = some (.int .i64 (rd_T111 xs i).f0) ∧ w.cell? ⟨(ad.add (i.toNat * 5)).block, (ad.add (i.toNat * 5)).off + 1, none⟩ = some (.int .i64 (rd_T111 xs i).f1) ∧ w.cell? ⟨(ad.add (i.toNat * 5)).block, (ad.add (i.toNat * 5)).off + 2, none⟩ = some (.int .i64 (rd_T111 xs i).f2) ∧ w.cell? ⟨(ad.add (i.toNat * 5)).block, (ad.add (i.toNat * 5)).off + 3, none⟩ = some (.int .i64 (rd_T111 xs i).f3) ∧ w.cell? ⟨(ad.add (i.toNat * 5)).block, (ad.add (i.toNat * 5)).off + 4, none⟩ = some (.int .i64 (rd_T111 xs i).f4) := by
  obtain ⟨ad, c, e, _, hK, hc0⟩ := Kd.C_get h z111 i h0 h1
  have hc : ∀ j u, c[j]? = some u → w.cell? (ad.add (i.toNat * 5 + j)) = some u := hc0
  obtain rfl := k111_open hK
  exact ⟨ad, e, hc 0 _ rfl, by rw [← add_field _ _ 1 (by omega)]; exact hc 1 _ rfl, by rw [← add_field _ _ 2 (by omega)]; exact hc 2 _ rfl, by rw [← add_field _ _ 3 (by omega)]; exact hc 3 _ rfl, by rw [← add_field _ _ 4 (by omega)]; exact hc 4 _ rfl⟩
structure S127 where
  f0 : Int
  f1 : Int
  f2 : (List S111)
  f3 : (List S127)
  f4 : (List S127)
def z127 : S127 := ⟨(0 : Int), (0 : Int), ([] : List S111), ([] : List S127), ([] : List S127)⟩
def F127 (d : Kd S127) : Kd S127 := Kd.iso (Kd.pair (Kd.int .i64) (Kd.pair (Kd.int .i64) (Kd.pair (Kd.slice 111 k111) (Kd.pair (Kd.slice 127 d) (Kd.slice 127 d))))) (fun x : S127 => (x.f0, x.f1, x.f2, x.f3, x.f4))
theorem mono127 : Kd.Mono F127 := Kd.mono_iso _ (Kd.mono_pair (Kd.mono_const _) (Kd.mono_pair (Kd.mono_const _) (Kd.mono_pair (Kd.mono_const _) (Kd.mono_pair (Kd.mono_slice 127 Kd.mono_id) (Kd.mono_slice 127 Kd.mono_id)))))
theorem sub127 : Kd.Sub F127 [111, 127] := Kd.sub_iso _ (Kd.sub_pair (Kd.sub_const _ (by decide)) (Kd.sub_pair (Kd.sub_const _ (by decide)) (Kd.sub_pair (Kd.sub_const _ (by decide)) (Kd.sub_pair (Kd.sub_slice 127 (by decide) Kd.sub_id) (Kd.sub_slice 127 (by decide) Kd.sub_id)))))
theorem sz127 : ∀ n, (Kd.upto F127 5 [111, 127] n).sz = 5 := Kd.upto_sz (fun _ => rfl)
def k127 : Kd S127 := Kd.fix F127 5 [111, 127] sz127 (Kd.upto_E sub127)
theorem k127_open {w : World} {x : S127} {cs : List Value} (h : k127.K w x cs) : ∃ A2 c2 A3 c3 A4 c4, cs = [.int .i64 x.f0, .int .i64 x.f1, .slice A2 x.f2.length c2, .slice A3 x.f3.length c3, .slice A4 x.f4.length c4] ∧ x.f2.length ≤ c2 ∧ k111.C w A2 x.f2.length x.f2 ∧ x.f3.length ≤ c3 ∧ k127.C w A3 x.f3.length x.f3 ∧ x.f4.length ≤ c4 ∧ k127.C w A4 x.f4.length x.f4 := by
  obtain ⟨n, h⟩ := h
  cases n with
  | zero => exact h.elim
  | succ n =>
    obtain ⟨_, _, rfl, rfl, ⟨_, _, rfl, rfl, ⟨_, _, rfl, ⟨A2, c2, rfl, l2, g2⟩, ⟨_, _, rfl, ⟨A3, c3, rfl, l3, g3⟩, ⟨A4, c4, rfl, l4, g4⟩⟩⟩⟩⟩ := h
    exact ⟨A2, c2, A3, c3, A4, c4, rfl, l2, g2, l3, Kd.fix_C g3, l4, Kd.fix_C g4⟩
theorem k127_mkM (w : World) (base : Nat) (ok : Nat → Prop) (x : S127) {v2 : Value} (g2 : k111.R 111 w base ok v2 x.f2) {v3 : Value} (g3 : k127.R 127 w base ok v3 x.f3) {v4 : Value} (g4 : k127.R 127 w base ok v4 x.f4) : k127.M w base ok x [.int .i64 x.f0, .int .i64 x.f1, v2, v3, v4] := by
  obtain ⟨n3, q3⟩ := Kd.fix_R_back mono127 g3
  obtain ⟨n4, q4⟩ := Kd.fix_R_back mono127 g4
  have r3 := Kd.upto_R_le mono127 sz127 (show n3 ≤ (max n3 n4) by omega) q3
  have r4 := Kd.upto_R_le mono127 sz127 (show n4 ≤ (max n3 n4) by omega) q4
  exact ⟨(max n3 n4) + 1, ⟨[.int .i64 x.f0], [.int .i64 x.f1, v2, v3, v4], rfl, rfl, ⟨[.int .i64 x.f1], [v2, v3, v4], rfl, rfl, ⟨[v2], [v3, v4], rfl, ⟨v2, rfl, g2⟩, ⟨[v3], [v4], rfl, ⟨v3, rfl, r3⟩, ⟨v4, rfl, r4⟩⟩⟩⟩⟩⟩
def rd_T127 (xs : List S127) (i : Int) : S127 := xs.getD i.toNat z127
theorem at_T127 {w : World} {A : Option Addr} {n : Nat} {xs : List S127} (h : Kd.C k127 w A n xs) (i : Int) (h0 : 0 ≤ i) (h1 : i < n) : ∃ ad A2 c2 A3 c3 A4 c4, A = some ad ∧ w.cell? (ad.add (i.toNat * 5)) = some (.int .i64 (rd_T127 xs i).f0) ∧ w.cell? ⟨(ad.add (i.toNat * 5)).block, (ad.add (i.toNat * 5)).off + 1, none⟩ = some (.int .i64 (rd_T127 xs i).f1) ∧ w.cell? ⟨(ad.add (i.toNat * 5)).block, (ad.add (i.toNat * 5)).off + 2, none⟩ = some (.slice A2 (rd_T127 xs i).f2.length c2) ∧ w.cell? ⟨(ad.add (i.toNat * 5)).block, (ad.add (i.toNat * 5)).off + 3, none⟩ = some (.slice A3 (rd_T127 xs i).f3.length c3) ∧ w.cell? ⟨(ad.add (i.toNat * 5)).block, (ad.add (i.toNat * 5)).off + 4, none⟩ = some (.slice A4 (rd_T127 xs i).f4.length c4) ∧ (rd_T127 xs i).f2.length ≤ c2 ∧ k111.C w A2 (rd_T127 xs i).f2.length (rd_T127 xs i).f2 ∧ (rd_T127 xs i).f3.length ≤ c3 ∧ k127.C w A3 (rd_T127 xs i).f3.length (rd_T127 xs i).f3 ∧ (rd_T127 xs i).f4.length ≤ c4 ∧ k127.C w A4 (rd_T127 xs i).f4.length (rd_T127 xs i).f4 := by
  obtain ⟨ad, c, e, _, hK, hc0⟩ := Kd.C_get h z127 i h0 h1
  have hc : ∀ j u, c[j]? = some u → w.cell? (ad.add (i.toNat * 5 + j)) = some u := hc0
  obtain ⟨A2, c2, A3, c3, A4, c4, rfl, l2, g2, l3, g3, l4, g4⟩ := k127_open hK
  exact ⟨ad, A2, c2, A3, c3, A4, c4, e, hc 0 _ rfl, by rw [← add_field _ _ 1 (by omega)]; exact hc 1 _ rfl, by rw [← add_field _ _ 2 (by omega)]; exact hc 2 _ rfl, by rw [← add_field _ _ 3 (by omega)]; exact hc 3 _ rfl, by rw [← add_field _ _ 4 (by omega)]; exact hc 4 _ rfl, l2, g2, l3, g3, l4, g4⟩
def rd_L7 (xs : List (List S127)) (i : Int) : (List S127) := xs.getD i.toNat ([] : List S127)
theorem at_L7 {w : World} {A : Option Addr} {n : Nat} {xs : List (List S127)} (h : Kd.C (Kd.slice 127 k127) w A n xs) (i : Int) (h0 : 0 ≤ i) (h1 : i < n) : ∃ ad A0 c0, A = some ad ∧ w.cell? (ad.add i.toNat) = some (.slice A0 (rd_L7 xs i).length c0) ∧ (rd_L7 xs i).length ≤ c0 ∧ k127.C w A0 (rd_L7 xs i).length (rd_L7 xs i) := by
  obtain ⟨ad, c, e, _, hK, hc0⟩ := Kd.C_get h ([] : List S127) i h0 h1
  have hc : ∀ j u, c[j]? = some u → w.cell? (ad.add (i.toNat * 1 + j)) = some u := hc0
  obtain ⟨A0, c0, rfl, l0, g0⟩ := hK
  exact ⟨ad, A0, c0, e, by have hq := hc 0 _ rfl; rwa [Nat.mul_one, Nat.add_zero] at hq, l0, g0⟩
structure S79 where
  f0 : (List S111)
  f1 : Int
  f2 : Int
  f3 : Int
def z79 : S79 := ⟨([] : List S111), (0 : Int), (0 : Int), (0 : Int)⟩
def k79 : Kd S79 := Kd.iso (Kd.pair (Kd.slice 111 k111) (Kd.pair (Kd.int .i64) (Kd.pair (Kd.int .i64) (Kd.int .i64)))) (fun x : S79 => (x.f0, x.f1, x.f2, x.f3))
theorem k79_open {w : World} {x : S79} {cs : List Value} (h : k79.K w x cs) : ∃ A0 c0, cs = [.slice A0 x.f0.length c0, .int .i64 x.f1, .int .i64 x.f2, .int .i64 x.f3] ∧ x.f0.length ≤ c0 ∧ k111.C w A0 x.f0.length x.f0 := by
  obtain ⟨_, _, rfl, ⟨A0, c0, rfl, l0, g0⟩, ⟨_, _, rfl, rfl, ⟨_, _, rfl, rfl, rfl⟩⟩⟩ := h
  exact ⟨A0, c0, rfl, l0, g0⟩
theorem k79_mk (w : World) (x : S79) {A0 : Option Addr} {c0 : Nat} (l0 : x.f0.length ≤ c0) (g0 : k111.C w A0 x.f0.length x.f0) : k79.K w x [.slice A0 x.f0.length c0, .int .i64 x.f1, .int .i64 x.f2, .int .i64 x.f3] := ⟨[.slice A0 x.f0.length c0], [.int .i64 x.f1, .int .i64 x.f2, .int .i64 x.f3], rfl, ⟨A0, c0, rfl, l0, g0⟩, ⟨[.int .i64 x.f1], [.int .i64 x.f2, .int .i64 x.f3], rfl, rfl, ⟨[.int .i64 x.f2], [.int .i64 x.f3], rfl, rfl, rfl⟩⟩⟩
def rd_T79 (xs : List S79) (i : Int) : S79 := xs.getD i.toNat z79
theorem at_T79 {w : World} {A : Option Addr} {n : Nat} {xs : List S79} (h : Kd.C k79 w A n xs) (i : Int) (h0 : 0 ≤ i) (h1 : i < n) : ∃ ad A0 c0, A = some ad ∧ w.cell? (ad.add (i.toNat * 4)) = some (.slice A0 (rd_T79 xs i).f0.length c0) ∧ w.cell? ⟨(ad.add (i.toNat * 4)).block, (ad.add (i.toNat * 4)).off + 1, none⟩ = some (.int .i64 (rd_T79 xs i).f1) ∧ w.cell? ⟨(ad.add (i.toNat * 4)).block, (ad.add (i.toNat * 4)).off + 2, none⟩ = some (.int .i64 (rd_T79 xs i).f2) ∧ w.cell? ⟨(ad.add (i.toNat * 4)).block, (ad.add (i.toNat * 4)).off + 3, none⟩ = some (.int .i64 (rd_T79 xs i).f3) ∧ (rd_T79 xs i).f0.length ≤ c0 ∧ k111.C w A0 (rd_T79 xs i).f0.length (rd_T79 xs i).f0 := by
  obtain ⟨ad, c, e, _, hK, hc0⟩ := Kd.C_get h z79 i h0 h1
  have hc : ∀ j u, c[j]? = some u → w.cell? (ad.add (i.toNat * 4 + j)) = some u := hc0
  obtain ⟨A0, c0, rfl, l0, g0⟩ := k79_open hK
  exact ⟨ad, A0, c0, e, hc 0 _ rfl, by rw [← add_field _ _ 1 (by omega)]; exact hc 1 _ rfl, by rw [← add_field _ _ 2 (by omega)]; exact hc 2 _ rfl, by rw [← add_field _ _ 3 (by omega)]; exact hc 3 _ rfl, l0, g0⟩
end Go.Proofs.Ytaicamjpcnhjcaa.PA
namespace Go.Proofs.Ytaicamjpcnhjcaa.PA
open Go.RowKit Go.Proofs.YtaicamjpcnhjcaaW.PrintWords Go.Proofs.YtaicamjpcnhjcaaW.PrintLast Go.Proofs.YtaicamjpcnhjcaaW.PrintMore
set_option linter.unusedVariables false
set_option linter.unusedSimpArgs false
def codemasonref_Inside.l0 : Nat → Int → List Int → Int → Int → Option (Bool)
  | 0, _, _, _, _ => none
  | k + 1, x0, x7, x8, x9 => if x9 < x8 then (if 0 ≤ x9 then (if x9 < (x7.length : Int) then (if (rd x7 x9) < 0 then (some false) else (if (rd x7 x9) ≥ x0 then (some false) else (codemasonref_Inside.l0 k x0 x7 x8 (wrap64 (x9 + 1))))) else (none)) else (none)) else (some true)
def codemasonref_Inside.f (k : Nat) (a0 : Int) (l1 : List Int) : Option (Bool) := codemasonref_Inside.l0 k a0 l1 (l1.length : Int) 0
theorem codemasonref_Inside.mono_l : ∀ k, (∀ y0 y1 y2 y3, LeO (codemasonref_Inside.l0 k y0 y1 y2 y3) (codemasonref_Inside.l0 (k + 1) y0 y1 y2 y3))
  | 0 => fun _ _ _ _ r h => by simp [codemasonref_Inside.l0] at h
  | k + 1 => by
    have ih0 := codemasonref_Inside.mono_l k
    · intro y0 y1 y2 y3
      unfold codemasonref_Inside.l0
      repeat' first
      | (with_reducible exact ih0 _ _ _ _)
      | (with_reducible exact LeO.refl _)
      | (with_reducible exact LeO.none _)
      | (with_reducible refine LeO.ite ?_ ?_)
      | (with_reducible refine LeO.bind ?_ (fun _ => ?_))
      | exact ih0 _ _ _ _
      | exact LeO.none _
      | refine LeO.ite ?_ ?_
      | refine LeO.bind ?_ (fun _ => ?_)
theorem codemasonref_Inside.mono : ∀ a0 a1 k, LeO (codemasonref_Inside.f k a0 a1) (codemasonref_Inside.f (k + 1) a0 a1) := by
  intro a0 a1 k
  have ih0 := codemasonref_Inside.mono_l k
  unfold codemasonref_Inside.f
  repeat' first
      | (with_reducible exact ih0 _ _ _ _)
      | (with_reducible exact LeO.refl _)
      | (with_reducible exact LeO.none _)
      | (with_reducible refine LeO.ite ?_ ?_)
      | (with_reducible refine LeO.bind ?_ (fun _ => ?_))
      | exact ih0 _ _ _ _
      | exact LeO.none _
      | refine LeO.ite ?_ ?_
      | refine LeO.bind ?_ (fun _ => ?_)
set_option maxHeartbeats 8000000 in
set_option maxRecDepth 100000 in
theorem codemasonref_Inside.calls (k : Nat) (a0 : Int) (A1 : Option Addr) (c1 : Nat) (l1 : List Int) (r : Bool) (w : World) (hr1 : Kd.C (Kd.int .i64) w A1 l1.length l1) (hc1 : l1.length ≤ c1) (h : codemasonref_Inside.f k a0 l1 = some r) :
    Calls Try.prog 52 #[.int .i64 a0, .slice A1 l1.length c1] w fun e w' => e = .returned (.bool r) ∧ Drawn0 w w' := by
  have HR1 := Aside0.mk hr1
  have HC1 := Aside0.mk hc1
  clear hr1 hc1
  have H : (codemasonref_Inside.l0 k a0 l1 (l1.length : Int) 0) = some r := h
  clear h
  have H' := Aside0.mk H
  clear H
  go_enter Try.func52, Try.ntmps52
  go_wp2
  go_loopg [9] k (fun kq v9 w' => ∃ (x9_1 : Int), v9 = .int .i64 x9_1 ∧ Aside0 (codemasonref_Inside.l0 kq a0 l1 (l1.length : Int) x9_1 = some r) ∧ Aside0 (kq ≤ k) ∧ Drawn0 w w')
  case atStart => exact ⟨(0), (by first | rfl | (simp; done) | (simp [*]; done)), H', ⟨Nat.le_refl _⟩, by repeat (first | exact Drawn0.refl _ | apply Drawn0.step)⟩
  case round =>
    clear H'
    try clear c1
    try clear p2
    obtain ⟨x9_1, rfl, HA, HK1, ⟨m1, rfl⟩⟩ := hrel
    cases gk with
    | zero => exact absurd HA.out (by simp [codemasonref_Inside.l0])
    | succ k1 =>
      have H := HA.out
      clear HA
      simp only [codemasonref_Inside.l0] at H
      by_cases c3 : x9_1 < (l1.length : Int)
      · rw [if_pos c3] at H
        have c3b0 : decide (x9_1 < (l1.length : Int)) = true := decide_eq_true c3
        clear c3
        by_cases c4 : 0 ≤ x9_1
        · rw [if_pos c4] at H
          have c4b0 : decide (0 ≤ x9_1) = true := decide_eq_true c4
          clear c4
          by_cases c5 : x9_1 < (l1.length : Int)
          · rw [if_pos c5] at H
            have c5b0 : decide (x9_1 < (l1.length : Int)) = true := decide_eq_true c5
            clear c5
            by_cases c6 : (rd l1 x9_1) < 0
            · rw [if_pos c6] at H
              have c6b0 : decide ((rd l1 x9_1) < 0) = true := decide_eq_true c6
              clear c6
              obtain rfl := Option.some.inj H
              have p123 : 0 ≤ (x9_1 : Int) := of_decide_eq_true (by first | (with_reducible assumption) | assumption)
              have q123 : x9_1 < (l1.length : Int) := of_decide_eq_true (by first | (with_reducible assumption) | assumption)
              obtain ⟨ad123, e123, hx123_0⟩ := Kd.at_int HR1.out x9_1 p123 q123
              cases e123
              replace p123 := eq_true p123
              replace q123 := eq_true q123
              go_wp2
              go_ret
              exact ⟨by first | rfl | (simp; done) | (simp [*]; done), by repeat (first | exact Drawn0.refl _ | apply Drawn0.step)⟩
            · rw [if_neg c6] at H
              have c6b0 : decide ((rd l1 x9_1) < 0) = false := decide_eq_false c6
              clear c6
              by_cases c7 : (rd l1 x9_1) ≥ a0
              · rw [if_pos c7] at H
                have c7b0 : decide (a0 ≤ (rd l1 x9_1)) = true := decide_eq_true c7
                clear c7
                obtain rfl := Option.some.inj H
                have p123 : 0 ≤ (x9_1 : Int) := of_decide_eq_true (by first | (with_reducible assumption) | assumption)
                have q123 : x9_1 < (l1.length : Int) := of_decide_eq_true (by first | (with_reducible assumption) | assumption)
                obtain ⟨ad123, e123, hx123_0⟩ := Kd.at_int HR1.out x9_1 p123 q123
                cases e123
                replace p123 := eq_true p123
                replace q123 := eq_true q123
                go_wp2
                go_ret
                exact ⟨by first | rfl | (simp; done) | (simp [*]; done), by repeat (first | exact Drawn0.refl _ | apply Drawn0.step)⟩
              · rw [if_neg c7] at H
                have c7b0 : decide (a0 ≤ (rd l1 x9_1)) = false := decide_eq_false c7
                clear c7
                have H' := Aside0.mk H
                clear H
                have p123 : 0 ≤ (x9_1 : Int) := of_decide_eq_true (by first | (with_reducible assumption) | assumption)
                have q123 : x9_1 < (l1.length : Int) := of_decide_eq_true (by first | (with_reducible assumption) | assumption)
                obtain ⟨ad123, e123, hx123_0⟩ := Kd.at_int HR1.out x9_1 p123 q123
                cases e123
                replace p123 := eq_true p123
                replace q123 := eq_true q123
                go_wp2
                go_roundg k1
                case measure => have := HK1.out; omega
                case rel => exact ⟨(wrap64 (x9_1 + 1)), (by first | rfl | (simp; done) | (simp [*]; done)), H', ⟨by have := HK1.out; omega⟩, by repeat (first | exact Drawn0.refl _ | apply Drawn0.step)⟩
          · rw [if_neg c5] at H
            exact absurd H (by simp)
        · rw [if_neg c4] at H
          exact absurd H (by simp)
      · rw [if_neg c3] at H
        have c3b0 : decide (x9_1 < (l1.length : Int)) = false := decide_eq_false c3
        clear c3
        obtain rfl := Option.some.inj H
        go_wp2
        go_ret
        exact ⟨by first | rfl | (simp; done) | (simp [*]; done), by repeat (first | exact Drawn0.refl _ | apply Drawn0.step)⟩
end Go.Proofs.Ytaicamjpcnhjcaa.PA
namespace Go.Proofs.Ytaicamjpcnhjcaa.PA
open Go.RowKit Go.Proofs.YtaicamjpcnhjcaaW.PrintWords Go.Proofs.YtaicamjpcnhjcaaW.PrintLast Go.Proofs.YtaicamjpcnhjcaaW.PrintMore
set_option linter.unusedVariables false
set_option linter.unusedSimpArgs false
def codemasonref_Value.f (a0 : Int) : Option (Bool) := if a0 ≥ 0 then (some (decide (a0 ≤ 255))) else (some false)
set_option maxHeartbeats 8000000 in
set_option maxRecDepth 100000 in
theorem codemasonref_Value.calls (a0 : Int) (r : Bool) (w : World) (h : codemasonref_Value.f a0 = some r) :
    Calls Try.prog 82 #[.int .i64 a0] w fun e w' => e = .returned (.bool r) ∧ Drawn0 w w' := by
  have H : (if a0 ≥ 0 then (some (decide (a0 ≤ 255))) else (some false)) = some r := h
  clear h
  by_cases c2 : a0 ≥ 0
  · rw [if_pos c2] at H
    have c2b0 : decide (0 ≤ a0) = true := decide_eq_true c2
    clear c2
    obtain rfl := Option.some.inj H
    go_enter Try.func82, Try.ntmps82
    go_wp2
    go_ret
    exact ⟨by first | rfl | (simp; done) | (simp [*]; done), by repeat (first | exact Drawn0.refl _ | apply Drawn0.step)⟩
  · rw [if_neg c2] at H
    have c2b0 : decide (0 ≤ a0) = false := decide_eq_false c2
    clear c2
    obtain rfl := Option.some.inj H
    go_enter Try.func82, Try.ntmps82
    go_wp2
    go_ret
    exact ⟨by first | rfl | (simp; done) | (simp [*]; done), by repeat (first | exact Drawn0.refl _ | apply Drawn0.step)⟩
end Go.Proofs.Ytaicamjpcnhjcaa.PA
namespace Go.Proofs.Ytaicamjpcnhjcaa.PA
open Go.RowKit Go.Proofs.YtaicamjpcnhjcaaW.PrintWords Go.Proofs.YtaicamjpcnhjcaaW.PrintLast Go.Proofs.YtaicamjpcnhjcaaW.PrintMore
set_option linter.unusedVariables false
set_option linter.unusedSimpArgs false
mutual
def codemasonref_StepCheck.j0 : Nat → Int → Int → Bool → Int → Int → Int → Int → Int → Option (Int)
  | 0, _, _, _, _, _, _, _, _ => none
  | k + 1, x0, x1, x14, x125000, x125001, x125002, x125003, x125004 => if x14 = true then (some 6) else (if x125000 = 1 then ((codemasonref_Value.f x125004).bind fun t125 => (if t125 = true then (if x125000 = 2 then ((codemasonref_Inside.f k x0 (([x125004] : List Int))).bind fun t129 => (codemasonref_StepCheck.j1 k x1 (!t129) x125000 x125001 x125002 x125003 x125004)) else (codemasonref_StepCheck.j1 k x1 false x125000 x125001 x125002 x125003 x125004)) else (codemasonref_StepCheck.j1 k x1 true x125000 x125001 x125002 x125003 x125004))) else (if x125000 = 2 then ((codemasonref_Inside.f k x0 (([x125004] : List Int))).bind fun t133 => (codemasonref_StepCheck.j1 k x1 (!t133) x125000 x125001 x125002 x125003 x125004)) else (codemasonref_StepCheck.j1 k x1 false x125000 x125001 x125002 x125003 x125004)))
def codemasonref_StepCheck.j1 : Nat → Int → Bool → Int → Int → Int → Int → Int → Option (Int)
  | 0, _, _, _, _, _, _, _ => none
  | k + 1, x1, x36, x125000, x125001, x125002, x125003, x125004 => if x36 = true then (some 4) else ((codemasonref_Inside.f k x1 (([x125001] : List Int))).bind fun t137 => (if t137 = true then (if x125000 ≥ 3 then ((codemasonref_Inside.f k x1 (([x125002, x125003] : List Int))).bind fun t141 => (if t141 = true then (some 0) else (some 2))) else (some 0)) else (some 2)))
end
def codemasonref_StepCheck.f (k : Nat) (a0 : Int) (a1 : Int) (a2_0 : Int) (a2_1 : Int) (a2_2 : Int) (a2_3 : Int) (a2_4 : Int) : Option (Int) := if a2_0 < 1 then (codemasonref_StepCheck.j0 k a0 a1 true a2_0 a2_1 a2_2 a2_3 a2_4) else (codemasonref_StepCheck.j0 k a0 a1 (decide (a2_0 > 6)) a2_0 a2_1 a2_2 a2_3 a2_4)
theorem codemasonref_StepCheck.mono_l : ∀ k, (∀ y0 y1 y2 y3 y4 y5 y6 y7, LeO (codemasonref_StepCheck.j0 k y0 y1 y2 y3 y4 y5 y6 y7) (codemasonref_StepCheck.j0 (k + 1) y0 y1 y2 y3 y4 y5 y6 y7)) ∧ (∀ y0 y1 y2 y3 y4 y5 y6, LeO (codemasonref_StepCheck.j1 k y0 y1 y2 y3 y4 y5 y6) (codemasonref_StepCheck.j1 (k + 1) y0 y1 y2 y3 y4 y5 y6))
  | 0 => ⟨fun _ _ _ _ _ _ _ _ r h => by simp [codemasonref_StepCheck.j0] at h, fun _ _ _ _ _ _ _ r h => by simp [codemasonref_StepCheck.j1] at h⟩
  | k + 1 => by
    obtain ⟨ih0, ih1⟩ := codemasonref_StepCheck.mono_l k
    refine ⟨?_, ?_⟩
    · intro y0 y1 y2 y3 y4 y5 y6 y7
      unfold codemasonref_StepCheck.j0
      repeat' first
      | (with_reducible exact ih0 _ _ _ _ _ _ _ _)
      | (with_reducible exact ih1 _ _ _ _ _ _ _)
      | (with_reducible exact codemasonref_Inside.mono _ _ _)
      | (with_reducible exact LeO.refl _)
      | (with_reducible exact LeO.none _)
      | (with_reducible refine LeO.ite ?_ ?_)
      | (with_reducible refine LeO.bind ?_ (fun _ => ?_))
      | exact ih0 _ _ _ _ _ _ _ _
      | exact ih1 _ _ _ _ _ _ _
      | exact codemasonref_Inside.mono _ _ _
      | exact LeO.none _
      | refine LeO.ite ?_ ?_
      | refine LeO.bind ?_ (fun _ => ?_)
    · intro y0 y1 y2 y3 y4 y5 y6
      unfold codemasonref_StepCheck.j1
      repeat' first
      | (with_reducible exact ih0 _ _ _ _ _ _ _ _)
      | (with_reducible exact ih1 _ _ _ _ _ _ _)
      | (with_reducible exact codemasonref_Inside.mono _ _ _)
      | (with_reducible exact LeO.refl _)
      | (with_reducible exact LeO.none _)
      | (with_reducible refine LeO.ite ?_ ?_)
      | (with_reducible refine LeO.bind ?_ (fun _ => ?_))
      | exact ih0 _ _ _ _ _ _ _ _
      | exact ih1 _ _ _ _ _ _ _
      | exact codemasonref_Inside.mono _ _ _
      | exact LeO.none _
      | refine LeO.ite ?_ ?_
      | refine LeO.bind ?_ (fun _ => ?_)
theorem codemasonref_StepCheck.mono : ∀ a0 a1 a2 a3 a4 a5 a6 k, LeO (codemasonref_StepCheck.f k a0 a1 a2 a3 a4 a5 a6) (codemasonref_StepCheck.f (k + 1) a0 a1 a2 a3 a4 a5 a6) := by
  intro a0 a1 a2 a3 a4 a5 a6 k
  obtain ⟨ih0, ih1⟩ := codemasonref_StepCheck.mono_l k
  unfold codemasonref_StepCheck.f
  repeat' first
      | (with_reducible exact ih0 _ _ _ _ _ _ _ _)
      | (with_reducible exact ih1 _ _ _ _ _ _ _)
      | (with_reducible exact codemasonref_Inside.mono _ _ _)
      | (with_reducible exact LeO.refl _)
      | (with_reducible exact LeO.none _)
      | (with_reducible refine LeO.ite ?_ ?_)
      | (with_reducible refine LeO.bind ?_ (fun _ => ?_))
      | exact ih0 _ _ _ _ _ _ _ _
      | exact ih1 _ _ _ _ _ _ _
      | exact codemasonref_Inside.mono _ _ _
      | exact LeO.none _
      | refine LeO.ite ?_ ?_
      | refine LeO.bind ?_ (fun _ => ?_)
set_option maxHeartbeats 8000000 in
set_option maxRecDepth 100000 in
theorem codemasonref_StepCheck.calls (k : Nat) (a0 : Int) (a1 : Int) (a2_0 : Int) (a2_1 : Int) (a2_2 : Int) (a2_3 : Int) (a2_4 : Int) (r : Int) (w : World) (h : codemasonref_StepCheck.f k a0 a1 a2_0 a2_1 a2_2 a2_3 a2_4 = some r) :
    Calls Try.prog 71 #[.int .i64 a0, .int .i64 a1, .agg #[.int .i64 a2_0, .int .i64 a2_1, .int .i64 a2_2, .int .i64 a2_3, .int .i64 a2_4]] w fun e w' => e = .returned (.int .i64 r) ∧ Below w.heap.size w w' := by
  have hu111 := Try.underlying111
  have HB := Aside0.mk (Below.refl w.heap.size w)
  have H : (if a2_0 < 1 then (codemasonref_StepCheck.j0 k a0 a1 true a2_0 a2_1 a2_2 a2_3 a2_4) else (codemasonref_StepCheck.j0 k a0 a1 (decide (a2_0 > 6)) a2_0 a2_1 a2_2 a2_3 a2_4)) = some r := h
  clear h
  have HC4 := Aside0.mk H
  clear H
  go_enter Try.func71, Try.ntmps71
  go_upto_region 1 with (first | ((with_reducible refine gate_dst (N := 5) rfl ?_); (try (refine gate_guard (by rfl) ?_; dsimp only)); refine box_event ?hg (N := 5) ?hd (cs := #[.int .i64 a2_0, .int .i64 a2_1, .int .i64 a2_2, .int .i64 a2_3, .int .i64 a2_4]) (t := 111) ?hr ?_; (case hd => rfl); (case hg => rfl); (case hr => first | (go_simp; done) | (go_simp; rfl)); intro gb124 hg w5 hbox hb; have n0_ := Aside0.mk (below_step (by repeat (first | (with_reducible first | exact HB.out | apply below_alloc | apply pw_below_drewN | apply below_drew1) | exact HB.out)) hb); have n1_ := Aside0.mk (hbox); have n2_ := Aside0.mk ((by rw [hg]; exact (below_size (by repeat (first | (with_reducible first | exact HB.out | apply below_alloc | apply pw_below_drewN | apply below_drew1) | exact HB.out))) : w.heap.size ≤ gb124)); have n3_ := Aside0.mk ((by rw [hg]; exact (below_size (by repeat (first | (with_reducible first | exact HB.out | apply below_alloc | apply pw_below_drewN | apply below_drew1) | exact HB.out))) : w.heap.size ≤ gb124)); clear HB; have HB := n0_; have BK124 := n1_; have GW124 := n2_; have GE124 := n3_; clear n0_ n1_ n2_ n3_; clear hb hbox hg))
  (try simp only [Act.put, List.setIfInBounds_toArray, List.set_cons_zero, List.set_cons_succ])
  go_cut [14] (fun v14 wc => ∃ (kq : Nat) (x14_3 : Bool), v14 = .bool x14_3 ∧ Aside0 (codemasonref_StepCheck.j0 kq a0 a1 x14_3 a2_0 a2_1 a2_2 a2_3 a2_4 = some r) ∧ Aside0 (kq ≤ k) ∧ Aside0 (wc.heap[gb124]? = some (.cells #[.int .i64 a2_0, .int .i64 a2_1, .int .i64 a2_2, .int .i64 a2_3, .int .i64 a2_4] 111 (0, 0))) ∧ Aside0 (Below w.heap.size w wc))
  case first =>
    have H := HC4.out
    clear HC4
    by_cases c6 : a2_0 < 1
    · rw [if_pos c6] at H
      have c6b0 : decide (a2_0 < 1) = true := decide_eq_true c6
      clear c6
      (first | rw [c6b0] | (simp only [i64_w, i32_w]; rw [c6b0]) | skip)
      have H' := Aside0.mk H
      clear H
      have hcz7_0 : w5.cell? ⟨gb124, 0, none⟩ = some (.int .i64 a2_0) := (blk_cell BK124.out 0).trans rfl
      have hcz7_1 : w5.cell? ⟨gb124, 1, none⟩ = some (.int .i64 a2_1) := (blk_cell BK124.out 1).trans rfl
      have hcz7_2 : w5.cell? ⟨gb124, 2, none⟩ = some (.int .i64 a2_2) := (blk_cell BK124.out 2).trans rfl
      have hcz7_3 : w5.cell? ⟨gb124, 3, none⟩ = some (.int .i64 a2_3) := (blk_cell BK124.out 3).trans rfl
      have hcz7_4 : w5.cell? ⟨gb124, 4, none⟩ = some (.int .i64 a2_4) := (blk_cell BK124.out 4).trans rfl
      have hfz7_0 := blk_frozen BK124.out 0
      have hfz7_1 := blk_frozen BK124.out 1
      have hfz7_2 := blk_frozen BK124.out 2
      have hfz7_3 := blk_frozen BK124.out 3
      have hfz7_4 := blk_frozen BK124.out 4
      go_wp2
      go_meet
      case rel => exact ⟨_, (true), (by first | rfl | (simp; done) | (simp [*]; done)), H', ⟨by first | omega | exact Nat.le_refl _⟩, ⟨by (with_reducible repeat (first | refine blk_drewN ?_ _ | refine blk_drew ?_ | refine blk_alloc ?_ _)); exact BK124.out⟩, ⟨by repeat (first | (with_reducible first | exact HB.out | apply below_alloc | apply pw_below_drewN | apply below_drew1 | refine below_set ?_ GE124.out) | exact HB.out)⟩⟩
    · rw [if_neg c6] at H
      have c6b0 : decide (a2_0 < 1) = false := decide_eq_false c6
      clear c6
      (first | rw [c6b0] | (simp only [i64_w, i32_w]; rw [c6b0]) | skip)
      have H' := Aside0.mk H
      clear H
      have hcz8_0 : w5.cell? ⟨gb124, 0, none⟩ = some (.int .i64 a2_0) := (blk_cell BK124.out 0).trans rfl
      have hcz8_1 : w5.cell? ⟨gb124, 1, none⟩ = some (.int .i64 a2_1) := (blk_cell BK124.out 1).trans rfl
      have hcz8_2 : w5.cell? ⟨gb124, 2, none⟩ = some (.int .i64 a2_2) := (blk_cell BK124.out 2).trans rfl
      have hcz8_3 : w5.cell? ⟨gb124, 3, none⟩ = some (.int .i64 a2_3) := (blk_cell BK124.out 3).trans rfl
      have hcz8_4 : w5.cell? ⟨gb124, 4, none⟩ = some (.int .i64 a2_4) := (blk_cell BK124.out 4).trans rfl
      have hfz8_0 := blk_frozen BK124.out 0
      have hfz8_1 := blk_frozen BK124.out 1
      have hfz8_2 := blk_frozen BK124.out 2
      have hfz8_3 := blk_frozen BK124.out 3
      have hfz8_4 := blk_frozen BK124.out 4
      go_wp2
      go_meet
      case rel => exact ⟨_, (decide (a2_0 > 6)), (by first | rfl | (simp; done) | (simp [*]; done)), H', ⟨by first | omega | exact Nat.le_refl _⟩, ⟨by (with_reducible repeat (first | refine blk_drewN ?_ _ | refine blk_drew ?_ | refine blk_alloc ?_ _)); exact BK124.out⟩, ⟨by repeat (first | (with_reducible first | exact HB.out | apply below_alloc | apply pw_below_drewN | apply below_drew1 | refine below_set ?_ GE124.out) | exact HB.out)⟩⟩
  case rest =>
    clear HC4
    try clear p2
    try clear c6
    try clear c6b0
    try clear c7
    try clear hcz7_0
    try clear hcz7_1
    try clear hcz7_2
    try clear hcz7_3
    try clear hcz7_4
    try clear hcz8_0
    try clear hcz8_1
    try clear hcz8_2
    try clear hcz8_3
    try clear hcz8_4
    try clear hfz7_0
    try clear hfz7_1
    try clear hfz7_2
    try clear hfz7_3
    try clear hfz7_4
    try clear hfz8_0
    try clear hfz8_1
    try clear hfz8_2
    try clear hfz8_3
    try clear hfz8_4
    obtain ⟨kq, x14_3, rfl, HA, HJ3, BK124, HB⟩ := hcut
    cases kq with
    | zero => exact absurd HA.out (by simp [codemasonref_StepCheck.j0])
    | succ kj3 =>
      have H := HA.out
      clear HA
      simp only [codemasonref_StepCheck.j0] at H
      by_cases c9 : x14_3 = true
      · subst c9
        have H1 : (some 6) = some r := by rw [if_pos rfl] at H; exact H
        clear H
        have H := H1
        clear H1
        obtain rfl := Option.some.inj H
        go_wp2
        go_ret
        exact ⟨by first | rfl | (simp [errW_none, errW_some] <;> rfl) | (simp [*, errW_none, errW_some] <;> rfl), by repeat (first | (with_reducible first | exact HB.out | apply below_alloc | apply pw_below_drewN | apply below_drew1 | refine below_set ?_ GE124.out) | exact HB.out)⟩
      · replace c9 := Bool.eq_false_iff.mpr c9
        subst c9
        have H1 : (if a2_0 = 1 then ((codemasonref_Value.f a2_4).bind fun t125 => (if t125 = true then (if a2_0 = 2 then ((codemasonref_Inside.f kj3 a0 (([a2_4] : List Int))).bind fun t129 => (codemasonref_StepCheck.j1 kj3 a1 (!t129) a2_0 a2_1 a2_2 a2_3 a2_4)) else (codemasonref_StepCheck.j1 kj3 a1 false a2_0 a2_1 a2_2 a2_3 a2_4)) else (codemasonref_StepCheck.j1 kj3 a1 true a2_0 a2_1 a2_2 a2_3 a2_4))) else (if a2_0 = 2 then ((codemasonref_Inside.f kj3 a0 (([a2_4] : List Int))).bind fun t133 => (codemasonref_StepCheck.j1 kj3 a1 (!t133) a2_0 a2_1 a2_2 a2_3 a2_4)) else (codemasonref_StepCheck.j1 kj3 a1 false a2_0 a2_1 a2_2 a2_3 a2_4))) = some r := by rw [if_neg (show ¬ (false = true) by decide)] at H; exact H
        clear H
        have H := H1
        clear H1
        have HC10 := Aside0.mk H
        clear H
        go_upto_region 3 with (fail)
        go_cut [36] (fun v36 wc => ∃ (kq : Nat) (x36_9 : Bool), v36 = .bool x36_9 ∧ Aside0 (codemasonref_StepCheck.j1 kq a1 x36_9 a2_0 a2_1 a2_2 a2_3 a2_4 = some r) ∧ Aside0 (kq ≤ kj3) ∧ Aside0 (wc.heap[gb124]? = some (.cells #[.int .i64 a2_0, .int .i64 a2_1, .int .i64 a2_2, .int .i64 a2_3, .int .i64 a2_4] 111 (0, 0))) ∧ Aside0 (Below w.heap.size w wc))
        case first =>
          have H := HC10.out
          clear HC10
          by_cases c11 : a2_0 = 1
          · rw [if_pos c11] at H
            have c11b0 : (a2_0 == 1) = true := beq_iff_eq.mpr c11
            have c11b1 : (a2_0 != 1) = false := bne_eq_false_iff_eq.mpr c11
            clear c11
            (first | rw [c11b0] | (simp only [i64_w, i32_w]; rw [c11b0]) | skip)
            replace H := Option.bind_eq_some_iff.mp H
            obtain ⟨t125, A120, H⟩ := H
            replace H : (if t125 = true then (if a2_0 = 2 then ((codemasonref_Inside.f kj3 a0 (([a2_4] : List Int))).bind fun t129 => (codemasonref_StepCheck.j1 kj3 a1 (!t129) a2_0 a2_1 a2_2 a2_3 a2_4)) else (codemasonref_StepCheck.j1 kj3 a1 false a2_0 a2_1 a2_2 a2_3 a2_4)) else (codemasonref_StepCheck.j1 kj3 a1 true a2_0 a2_1 a2_2 a2_3 a2_4)) = some r := H
            have A12 := Aside0.mk A120
            clear A120
            by_cases c13 : t125 = true
            · subst c13
              have H1 : (if a2_0 = 2 then ((codemasonref_Inside.f kj3 a0 (([a2_4] : List Int))).bind fun t129 => (codemasonref_StepCheck.j1 kj3 a1 (!t129) a2_0 a2_1 a2_2 a2_3 a2_4)) else (codemasonref_StepCheck.j1 kj3 a1 false a2_0 a2_1 a2_2 a2_3 a2_4)) = some r := by rw [if_pos rfl] at H; exact H
              clear H
              have H := H1
              clear H1
              by_cases c14 : a2_0 = 2
              · rw [if_pos c14] at H
                have c14b0 : (a2_0 == 2) = true := beq_iff_eq.mpr c14
                have c14b1 : (a2_0 != 2) = false := bne_eq_false_iff_eq.mpr c14
                clear c14
                obtain ⟨y126, hy126⟩ : ∃ y_ : List Int, y_ = (([a2_4] : List Int)) := ⟨_, rfl⟩
                replace H : ((codemasonref_Inside.f kj3 a0 y126).bind fun t129 => (codemasonref_StepCheck.j1 kj3 a1 (!t129) a2_0 a2_1 a2_2 a2_3 a2_4)) = some r := by first | (rw [hy126]; with_reducible exact H) | (have H2_ := (Option.bind_some _ _).symm.trans H; rw [hy126]; with_reducible exact H2_) | (have H2_ := (Option.bind_some _ _).symm.trans H; with_reducible exact H2_) | with_reducible exact H | (rw [hy126]; exact H) | exact H
                have Ny126 := Aside0.mk hy126
                clear hy126
                replace H := Option.bind_eq_some_iff.mp H
                obtain ⟨t129, A150, H⟩ := H
                replace H : (codemasonref_StepCheck.j1 kj3 a1 (!t129) a2_0 a2_1 a2_2 a2_3 a2_4) = some r := H
                have A15 := Aside0.mk A150
                clear A150
                have H' := Aside0.mk H
                clear H
                have hcz16_0 : wc.cell? ⟨gb124, 0, none⟩ = some (.int .i64 a2_0) := (blk_cell BK124.out 0).trans rfl
                have hcz16_1 : wc.cell? ⟨gb124, 1, none⟩ = some (.int .i64 a2_1) := (blk_cell BK124.out 1).trans rfl
                have hcz16_2 : wc.cell? ⟨gb124, 2, none⟩ = some (.int .i64 a2_2) := (blk_cell BK124.out 2).trans rfl
                have hcz16_3 : wc.cell? ⟨gb124, 3, none⟩ = some (.int .i64 a2_3) := (blk_cell BK124.out 3).trans rfl
                have hcz16_4 : wc.cell? ⟨gb124, 4, none⟩ = some (.int .i64 a2_4) := (blk_cell BK124.out 4).trans rfl
                have hfz16_0 := blk_frozen BK124.out 0
                have hfz16_1 := blk_frozen BK124.out 1
                have hfz16_2 := blk_frozen BK124.out 2
                have hfz16_3 := blk_frozen BK124.out 3
                have hfz16_4 := blk_frozen BK124.out 4
                go_wp2_with (first | (go_at_call 82; (with_reducible refine (codemasonref_Value.calls a2_4 true _ A12.out).mono ?_); rintro e w' ⟨rfl, ⟨nd, rfl⟩⟩) | ((with_reducible refine gate_dst (N := 32) rfl ?_); (try (refine gate_guard (by rfl) ?_; dsimp only)); refine Kd.R_lit (Kd.int .i64) _ 3 ?hg (N := 32) ?hd (xs := ([a2_4] : List Int)) (inner := [.int .i64 a2_4]) (ok := fun _ => True) (okp := fun _ => True) ?hr ?hp (fun _ hk => hk) trivial (Below.refl _ _) (Nat.le_refl _) (by simp) ?_; (case hd => rfl); (case hg => rfl); (case hr => first | (go_simp; done) | (go_simp; rfl)); (case hp => exact (Reps.one (show Kd.M (Kd.int .i64) _ _ _ a2_4 [.int .i64 a2_4] from rfl) (Reps.none _ _))); intro v127 w17 ho18 hb hg_ hnew_; clear hg_ hnew_; (first | rw [← Ny126.out] at ho18 | (simp only [Int.reduceToNat] at ho18; rw [← Ny126.out] at ho18)); have n0_ := Aside0.mk (Kd.R_lower ho18 (below_size (by repeat (first | (with_reducible first | exact HB.out | apply below_alloc | apply pw_below_drewN | apply below_drew1 | refine below_set ?_ GE124.out) | exact HB.out)))); have n1_ := Aside0.mk (blk_below (g := gb124) (o := .cells #[.int .i64 a2_0, .int .i64 a2_1, .int .i64 a2_2, .int .i64 a2_3, .int .i64 a2_4] 111 (0, 0)) (by (with_reducible repeat (first | refine blk_drewN ?_ _ | refine blk_drew ?_ | refine blk_alloc ?_ _)); exact BK124.out) hb); have n2_ := Aside0.mk (below_step (by repeat (first | (with_reducible first | exact HB.out | apply below_alloc | apply pw_below_drewN | apply below_drew1 | refine below_set ?_ GE124.out) | exact HB.out)) hb); clear BK124; clear HB; have HO128 := n0_; have BK124 := n1_; have HB := n2_; clear n0_ n1_ n2_; clear hb ho18; obtain ⟨Ao19, co19, eo19⟩ := Kd.R_slice HO128.out; subst eo19) | (go_at_call 52; (with_reducible refine (codemasonref_Inside.calls kj3 a0 _ _ y126 t129 _ ?side1 ?side2 A15.out).mono ?_); (case side1 => repeat (first | exact (Kd.R_reads' HO128.out).2.2 | (with_reducible refine Kd.C_alloc ?_ _) | (with_reducible refine Kd.C_drewN ?_ _) | (with_reducible refine Kd.C_drew ?_))); (case side2 => exact (Kd.R_reads' HO128.out).2.1); rintro e w' ⟨rfl, ⟨nd, rfl⟩⟩))
                go_meet
                case rel => exact ⟨_, (!t129), (by first | rfl | (simp; done) | (simp [*]; done)), H', ⟨by have := HJ3.out; first | omega | exact Nat.le_refl _⟩, ⟨by (with_reducible repeat (first | refine blk_drewN ?_ _ | refine blk_drew ?_ | refine blk_alloc ?_ _)); exact BK124.out⟩, ⟨by repeat (first | (with_reducible first | exact HB.out | apply below_alloc | apply pw_below_drewN | apply below_drew1 | refine below_set ?_ GE124.out) | exact HB.out)⟩⟩
              · rw [if_neg c14] at H
                have c14b0 : (a2_0 == 2) = false := beq_eq_false_iff_ne.mpr c14
                have c14b1 : (a2_0 != 2) = true := bne_iff_ne.mpr c14
                have H' := Aside0.mk H
                clear H
                have hcz20_0 : wc.cell? ⟨gb124, 0, none⟩ = some (.int .i64 a2_0) := (blk_cell BK124.out 0).trans rfl
                have hcz20_1 : wc.cell? ⟨gb124, 1, none⟩ = some (.int .i64 a2_1) := (blk_cell BK124.out 1).trans rfl
                have hcz20_2 : wc.cell? ⟨gb124, 2, none⟩ = some (.int .i64 a2_2) := (blk_cell BK124.out 2).trans rfl
                have hcz20_3 : wc.cell? ⟨gb124, 3, none⟩ = some (.int .i64 a2_3) := (blk_cell BK124.out 3).trans rfl
                have hcz20_4 : wc.cell? ⟨gb124, 4, none⟩ = some (.int .i64 a2_4) := (blk_cell BK124.out 4).trans rfl
                have hfz20_0 := blk_frozen BK124.out 0
                have hfz20_1 := blk_frozen BK124.out 1
                have hfz20_2 := blk_frozen BK124.out 2
                have hfz20_3 := blk_frozen BK124.out 3
                have hfz20_4 := blk_frozen BK124.out 4
                go_wp2_with (first | (go_at_call 82; (with_reducible refine (codemasonref_Value.calls a2_4 true _ A12.out).mono ?_); rintro e w' ⟨rfl, ⟨nd, rfl⟩⟩))
                go_meet
                case rel => exact ⟨_, (false), (by first | rfl | (simp; done) | (simp [*]; done)), H', ⟨by have := HJ3.out; first | omega | exact Nat.le_refl _⟩, ⟨by (with_reducible repeat (first | refine blk_drewN ?_ _ | refine blk_drew ?_ | refine blk_alloc ?_ _)); exact BK124.out⟩, ⟨by repeat (first | (with_reducible first | exact HB.out | apply below_alloc | apply pw_below_drewN | apply below_drew1 | refine below_set ?_ GE124.out) | exact HB.out)⟩⟩
            · replace c13 := Bool.eq_false_iff.mpr c13
              subst c13
              have H1 : (codemasonref_StepCheck.j1 kj3 a1 true a2_0 a2_1 a2_2 a2_3 a2_4) = some r := by rw [if_neg (show ¬ (false = true) by decide)] at H; exact H
              clear H
              have H := H1
              clear H1
              have H' := Aside0.mk H
              clear H
              have hcz21_0 : wc.cell? ⟨gb124, 0, none⟩ = some (.int .i64 a2_0) := (blk_cell BK124.out 0).trans rfl
              have hcz21_1 : wc.cell? ⟨gb124, 1, none⟩ = some (.int .i64 a2_1) := (blk_cell BK124.out 1).trans rfl
              have hcz21_2 : wc.cell? ⟨gb124, 2, none⟩ = some (.int .i64 a2_2) := (blk_cell BK124.out 2).trans rfl
              have hcz21_3 : wc.cell? ⟨gb124, 3, none⟩ = some (.int .i64 a2_3) := (blk_cell BK124.out 3).trans rfl
              have hcz21_4 : wc.cell? ⟨gb124, 4, none⟩ = some (.int .i64 a2_4) := (blk_cell BK124.out 4).trans rfl
              have hfz21_0 := blk_frozen BK124.out 0
              have hfz21_1 := blk_frozen BK124.out 1
              have hfz21_2 := blk_frozen BK124.out 2
              have hfz21_3 := blk_frozen BK124.out 3
              have hfz21_4 := blk_frozen BK124.out 4
              go_wp2_with (first | (go_at_call 82; (with_reducible refine (codemasonref_Value.calls a2_4 false _ A12.out).mono ?_); rintro e w' ⟨rfl, ⟨nd, rfl⟩⟩))
              go_meet
              case rel => exact ⟨_, (true), (by first | rfl | (simp; done) | (simp [*]; done)), H', ⟨by have := HJ3.out; first | omega | exact Nat.le_refl _⟩, ⟨by (with_reducible repeat (first | refine blk_drewN ?_ _ | refine blk_drew ?_ | refine blk_alloc ?_ _)); exact BK124.out⟩, ⟨by repeat (first | (with_reducible first | exact HB.out | apply below_alloc | apply pw_below_drewN | apply below_drew1 | refine below_set ?_ GE124.out) | exact HB.out)⟩⟩
          · rw [if_neg c11] at H
            have c11b0 : (a2_0 == 1) = false := beq_eq_false_iff_ne.mpr c11
            have c11b1 : (a2_0 != 1) = true := bne_iff_ne.mpr c11
            (first | rw [c11b0] | (simp only [i64_w, i32_w]; rw [c11b0]) | skip)
            by_cases c22 : a2_0 = 2
            · rw [if_pos c22] at H
              have c22b0 : (a2_0 == 2) = true := beq_iff_eq.mpr c22
              have c22b1 : (a2_0 != 2) = false := bne_eq_false_iff_eq.mpr c22
              clear c22
              obtain ⟨y130, hy130⟩ : ∃ y_ : List Int, y_ = (([a2_4] : List Int)) := ⟨_, rfl⟩
              replace H : ((codemasonref_Inside.f kj3 a0 y130).bind fun t133 => (codemasonref_StepCheck.j1 kj3 a1 (!t133) a2_0 a2_1 a2_2 a2_3 a2_4)) = some r := by first | (rw [hy130]; with_reducible exact H) | (have H2_ := (Option.bind_some _ _).symm.trans H; rw [hy130]; with_reducible exact H2_) | (have H2_ := (Option.bind_some _ _).symm.trans H; with_reducible exact H2_) | with_reducible exact H | (rw [hy130]; exact H) | exact H
              have Ny130 := Aside0.mk hy130
              clear hy130
              replace H := Option.bind_eq_some_iff.mp H
              obtain ⟨t133, A230, H⟩ := H
              replace H : (codemasonref_StepCheck.j1 kj3 a1 (!t133) a2_0 a2_1 a2_2 a2_3 a2_4) = some r := H
              have A23 := Aside0.mk A230
              clear A230
              have H' := Aside0.mk H
              clear H
              have hcz24_0 : wc.cell? ⟨gb124, 0, none⟩ = some (.int .i64 a2_0) := (blk_cell BK124.out 0).trans rfl
              have hcz24_1 : wc.cell? ⟨gb124, 1, none⟩ = some (.int .i64 a2_1) := (blk_cell BK124.out 1).trans rfl
              have hcz24_2 : wc.cell? ⟨gb124, 2, none⟩ = some (.int .i64 a2_2) := (blk_cell BK124.out 2).trans rfl
              have hcz24_3 : wc.cell? ⟨gb124, 3, none⟩ = some (.int .i64 a2_3) := (blk_cell BK124.out 3).trans rfl
              have hcz24_4 : wc.cell? ⟨gb124, 4, none⟩ = some (.int .i64 a2_4) := (blk_cell BK124.out 4).trans rfl
              have hfz24_0 := blk_frozen BK124.out 0
              have hfz24_1 := blk_frozen BK124.out 1
              have hfz24_2 := blk_frozen BK124.out 2
              have hfz24_3 := blk_frozen BK124.out 3
              have hfz24_4 := blk_frozen BK124.out 4
              go_wp2_with (first | ((with_reducible refine gate_dst (N := 32) rfl ?_); (try (refine gate_guard (by rfl) ?_; dsimp only)); refine Kd.R_lit (Kd.int .i64) _ 3 ?hg (N := 32) ?hd (xs := ([a2_4] : List Int)) (inner := [.int .i64 a2_4]) (ok := fun _ => True) (okp := fun _ => True) ?hr ?hp (fun _ hk => hk) trivial (Below.refl _ _) (Nat.le_refl _) (by simp) ?_; (case hd => rfl); (case hg => rfl); (case hr => first | (go_simp; done) | (go_simp; rfl)); (case hp => exact (Reps.one (show Kd.M (Kd.int .i64) _ _ _ a2_4 [.int .i64 a2_4] from rfl) (Reps.none _ _))); intro v131 w25 ho26 hb hg_ hnew_; clear hg_ hnew_; (first | rw [← Ny130.out] at ho26 | (simp only [Int.reduceToNat] at ho26; rw [← Ny130.out] at ho26)); have n0_ := Aside0.mk (Kd.R_lower ho26 (below_size (by repeat (first | (with_reducible first | exact HB.out | apply below_alloc | apply pw_below_drewN | apply below_drew1 | refine below_set ?_ GE124.out) | exact HB.out)))); have n1_ := Aside0.mk (blk_below (g := gb124) (o := .cells #[.int .i64 a2_0, .int .i64 a2_1, .int .i64 a2_2, .int .i64 a2_3, .int .i64 a2_4] 111 (0, 0)) (by (with_reducible repeat (first | refine blk_drewN ?_ _ | refine blk_drew ?_ | refine blk_alloc ?_ _)); exact BK124.out) hb); have n2_ := Aside0.mk (below_step (by repeat (first | (with_reducible first | exact HB.out | apply below_alloc | apply pw_below_drewN | apply below_drew1 | refine below_set ?_ GE124.out) | exact HB.out)) hb); clear BK124; clear HB; have HO132 := n0_; have BK124 := n1_; have HB := n2_; clear n0_ n1_ n2_; clear hb ho26; obtain ⟨Ao27, co27, eo27⟩ := Kd.R_slice HO132.out; subst eo27) | (go_at_call 52; (with_reducible refine (codemasonref_Inside.calls kj3 a0 _ _ y130 t133 _ ?side1 ?side2 A23.out).mono ?_); (case side1 => repeat (first | exact (Kd.R_reads' HO132.out).2.2 | (with_reducible refine Kd.C_alloc ?_ _) | (with_reducible refine Kd.C_drewN ?_ _) | (with_reducible refine Kd.C_drew ?_))); (case side2 => exact (Kd.R_reads' HO132.out).2.1); rintro e w' ⟨rfl, ⟨nd, rfl⟩⟩))
              go_meet
              case rel => exact ⟨_, (!t133), (by first | rfl | (simp; done) | (simp [*]; done)), H', ⟨by have := HJ3.out; first | omega | exact Nat.le_refl _⟩, ⟨by (with_reducible repeat (first | refine blk_drewN ?_ _ | refine blk_drew ?_ | refine blk_alloc ?_ _)); exact BK124.out⟩, ⟨by repeat (first | (with_reducible first | exact HB.out | apply below_alloc | apply pw_below_drewN | apply below_drew1 | refine below_set ?_ GE124.out) | exact HB.out)⟩⟩
            · rw [if_neg c22] at H
              have c22b0 : (a2_0 == 2) = false := beq_eq_false_iff_ne.mpr c22
              have c22b1 : (a2_0 != 2) = true := bne_iff_ne.mpr c22
              have H' := Aside0.mk H
              clear H
              have hcz28_0 : wc.cell? ⟨gb124, 0, none⟩ = some (.int .i64 a2_0) := (blk_cell BK124.out 0).trans rfl
              have hcz28_1 : wc.cell? ⟨gb124, 1, none⟩ = some (.int .i64 a2_1) := (blk_cell BK124.out 1).trans rfl
              have hcz28_2 : wc.cell? ⟨gb124, 2, none⟩ = some (.int .i64 a2_2) := (blk_cell BK124.out 2).trans rfl
              have hcz28_3 : wc.cell? ⟨gb124, 3, none⟩ = some (.int .i64 a2_3) := (blk_cell BK124.out 3).trans rfl
              have hcz28_4 : wc.cell? ⟨gb124, 4, none⟩ = some (.int .i64 a2_4) := (blk_cell BK124.out 4).trans rfl
              have hfz28_0 := blk_frozen BK124.out 0
              have hfz28_1 := blk_frozen BK124.out 1
              have hfz28_2 := blk_frozen BK124.out 2
              have hfz28_3 := blk_frozen BK124.out 3
              have hfz28_4 := blk_frozen BK124.out 4
              go_wp2
              go_meet
              case rel => exact ⟨_, (false), (by first | rfl | (simp; done) | (simp [*]; done)), H', ⟨by have := HJ3.out; first | omega | exact Nat.le_refl _⟩, ⟨by (with_reducible repeat (first | refine blk_drewN ?_ _ | refine blk_drew ?_ | refine blk_alloc ?_ _)); exact BK124.out⟩, ⟨by repeat (first | (with_reducible first | exact HB.out | apply below_alloc | apply pw_below_drewN | apply below_drew1 | refine below_set ?_ GE124.out) | exact HB.out)⟩⟩
        case rest =>
          clear HC10
          try clear c1
          try clear c2
          try clear p2
          try clear c6
          try clear c6b0
          try clear c7
          try clear c9
          try clear c11
          try clear c11b0
          try clear c11b1
          try clear c13
          try clear c14
          try clear c14b0
          try clear c14b1
          try clear c22
          try clear c22b0
          try clear c22b1
          try clear hcz16_0
          try clear hcz16_1
          try clear hcz16_2
          try clear hcz16_3
          try clear hcz16_4
          try clear hcz20_0
          try clear hcz20_1
          try clear hcz20_2
          try clear hcz20_3
          try clear hcz20_4
          try clear hcz21_0
          try clear hcz21_1
          try clear hcz21_2
          try clear hcz21_3
          try clear hcz21_4
          try clear hcz24_0
          try clear hcz24_1
          try clear hcz24_2
          try clear hcz24_3
          try clear hcz24_4
          try clear hcz28_0
          try clear hcz28_1
          try clear hcz28_2
          try clear hcz28_3
          try clear hcz28_4
          try clear hcz7_0
          try clear hcz7_1
          try clear hcz7_2
          try clear hcz7_3
          try clear hcz7_4
          try clear hcz8_0
          try clear hcz8_1
          try clear hcz8_2
          try clear hcz8_3
          try clear hcz8_4
          try clear hfz16_0
          try clear hfz16_1
          try clear hfz16_2
          try clear hfz16_3
          try clear hfz16_4
          try clear hfz20_0
          try clear hfz20_1
          try clear hfz20_2
          try clear hfz20_3
          try clear hfz20_4
          try clear hfz21_0
          try clear hfz21_1
          try clear hfz21_2
          try clear hfz21_3
          try clear hfz21_4
          try clear hfz24_0
          try clear hfz24_1
          try clear hfz24_2
          try clear hfz24_3
          try clear hfz24_4
          try clear hfz28_0
          try clear hfz28_1
          try clear hfz28_2
          try clear hfz28_3
          try clear hfz28_4
          try clear hfz7_0
          try clear hfz7_1
          try clear hfz7_2
          try clear hfz7_3
          try clear hfz7_4
          try clear hfz8_0
          try clear hfz8_1
          try clear hfz8_2
          try clear hfz8_3
          try clear hfz8_4
          try clear p2
          obtain ⟨kq, x36_9, rfl, HA, HJ9, BK124, HB⟩ := hcut
          cases kq with
          | zero => exact absurd HA.out (by simp [codemasonref_StepCheck.j1])
          | succ kj9 =>
            have H := HA.out
            clear HA
            simp only [codemasonref_StepCheck.j1] at H
            by_cases c29 : x36_9 = true
            · subst c29
              have H1 : (some 4) = some r := by rw [if_pos rfl] at H; exact H
              clear H
              have H := H1
              clear H1
              obtain rfl := Option.some.inj H
              go_wp2
              go_ret
              exact ⟨by first | rfl | (simp [errW_none, errW_some] <;> rfl) | (simp [*, errW_none, errW_some] <;> rfl), by repeat (first | (with_reducible first | exact HB.out | apply below_alloc | apply pw_below_drewN | apply below_drew1 | refine below_set ?_ GE124.out) | exact HB.out)⟩
            · replace c29 := Bool.eq_false_iff.mpr c29
              subst c29
              have H1 : ((codemasonref_Inside.f kj9 a1 (([a2_1] : List Int))).bind fun t137 => (if t137 = true then (if a2_0 ≥ 3 then ((codemasonref_Inside.f kj9 a1 (([a2_2, a2_3] : List Int))).bind fun t141 => (if t141 = true then (some 0) else (some 2))) else (some 0)) else (some 2))) = some r := by rw [if_neg (show ¬ (false = true) by decide)] at H; exact H
              clear H
              have H := H1
              clear H1
              obtain ⟨y134, hy134⟩ : ∃ y_ : List Int, y_ = (([a2_1] : List Int)) := ⟨_, rfl⟩
              replace H : ((codemasonref_Inside.f kj9 a1 y134).bind fun t137 => (if t137 = true then (if a2_0 ≥ 3 then ((codemasonref_Inside.f kj9 a1 (([a2_2, a2_3] : List Int))).bind fun t141 => (if t141 = true then (some 0) else (some 2))) else (some 0)) else (some 2))) = some r := by first | (rw [hy134]; with_reducible exact H) | (have H2_ := (Option.bind_some _ _).symm.trans H; rw [hy134]; with_reducible exact H2_) | (have H2_ := (Option.bind_some _ _).symm.trans H; with_reducible exact H2_) | with_reducible exact H | (rw [hy134]; exact H) | exact H
              have Ny134 := Aside0.mk hy134
              clear hy134
              replace H := Option.bind_eq_some_iff.mp H
              obtain ⟨t137, A300, H⟩ := H
              replace H : (if t137 = true then (if a2_0 ≥ 3 then ((codemasonref_Inside.f kj9 a1 (([a2_2, a2_3] : List Int))).bind fun t141 => (if t141 = true then (some 0) else (some 2))) else (some 0)) else (some 2)) = some r := H
              have A30 := Aside0.mk A300
              clear A300
              by_cases c31 : t137 = true
              · subst c31
                have H1 : (if a2_0 ≥ 3 then ((codemasonref_Inside.f kj9 a1 (([a2_2, a2_3] : List Int))).bind fun t141 => (if t141 = true then (some 0) else (some 2))) else (some 0)) = some r := by rw [if_pos rfl] at H; exact H
                clear H
                have H := H1
                clear H1
                by_cases c32 : a2_0 ≥ 3
                · rw [if_pos c32] at H
                  have c32b0 : decide (3 ≤ a2_0) = true := decide_eq_true c32
                  clear c32
                  obtain ⟨y138, hy138⟩ : ∃ y_ : List Int, y_ = (([a2_2, a2_3] : List Int)) := ⟨_, rfl⟩
                  replace H : ((codemasonref_Inside.f kj9 a1 y138).bind fun t141 => (if t141 = true then (some 0) else (some 2))) = some r := by first | (rw [hy138]; with_reducible exact H) | (have H2_ := (Option.bind_some _ _).symm.trans H; rw [hy138]; with_reducible exact H2_) | (have H2_ := (Option.bind_some _ _).symm.trans H; with_reducible exact H2_) | with_reducible exact H | (rw [hy138]; exact H) | exact H
                  have Ny138 := Aside0.mk hy138
                  clear hy138
                  replace H := Option.bind_eq_some_iff.mp H
                  obtain ⟨t141, A330, H⟩ := H
                  replace H : (if t141 = true then (some 0) else (some 2)) = some r := H
                  have A33 := Aside0.mk A330
                  clear A330
                  by_cases c34 : t141 = true
                  · subst c34
                    have H1 : (some 0) = some r := by rw [if_pos rfl] at H; exact H
                    clear H
                    have H := H1
                    clear H1
                    obtain rfl := Option.some.inj H
                    have hcz35_0 : wc.cell? ⟨gb124, 0, none⟩ = some (.int .i64 a2_0) := (blk_cell BK124.out 0).trans rfl
                    have hcz35_1 : wc.cell? ⟨gb124, 1, none⟩ = some (.int .i64 a2_1) := (blk_cell BK124.out 1).trans rfl
                    have hcz35_2 : wc.cell? ⟨gb124, 2, none⟩ = some (.int .i64 a2_2) := (blk_cell BK124.out 2).trans rfl
                    have hcz35_3 : wc.cell? ⟨gb124, 3, none⟩ = some (.int .i64 a2_3) := (blk_cell BK124.out 3).trans rfl
                    have hcz35_4 : wc.cell? ⟨gb124, 4, none⟩ = some (.int .i64 a2_4) := (blk_cell BK124.out 4).trans rfl
                    have hfz35_0 := blk_frozen BK124.out 0
                    have hfz35_1 := blk_frozen BK124.out 1
                    have hfz35_2 := blk_frozen BK124.out 2
                    have hfz35_3 := blk_frozen BK124.out 3
                    have hfz35_4 := blk_frozen BK124.out 4
                    go_wp2_with (first | ((with_reducible refine gate_dst (N := 40) rfl ?_); (try (refine gate_guard (by rfl) ?_; dsimp only)); refine Kd.R_lit (Kd.int .i64) _ 3 ?hg (N := 40) ?hd (xs := ([a2_1] : List Int)) (inner := [.int .i64 a2_1]) (ok := fun _ => True) (okp := fun _ => True) ?hr ?hp (fun _ hk => hk) trivial (Below.refl _ _) (Nat.le_refl _) (by simp) ?_; (case hd => rfl); (case hg => rfl); (case hr => first | (go_simp; done) | (go_simp; rfl)); (case hp => exact (Reps.one (show Kd.M (Kd.int .i64) _ _ _ a2_1 [.int .i64 a2_1] from rfl) (Reps.none _ _))); intro v135 w36 ho37 hb hg_ hnew_; clear hg_ hnew_; (first | rw [← Ny134.out] at ho37 | (simp only [Int.reduceToNat] at ho37; rw [← Ny134.out] at ho37)); have n0_ := Aside0.mk (Kd.R_lower ho37 (below_size (by repeat (first | (with_reducible first | exact HB.out | apply below_alloc | apply pw_below_drewN | apply below_drew1 | refine below_set ?_ GE124.out) | exact HB.out)))); have n1_ := Aside0.mk (blk_below (g := gb124) (o := .cells #[.int .i64 a2_0, .int .i64 a2_1, .int .i64 a2_2, .int .i64 a2_3, .int .i64 a2_4] 111 (0, 0)) (by (with_reducible repeat (first | refine blk_drewN ?_ _ | refine blk_drew ?_ | refine blk_alloc ?_ _)); exact BK124.out) hb); have n2_ := Aside0.mk (below_step (by repeat (first | (with_reducible first | exact HB.out | apply below_alloc | apply pw_below_drewN | apply below_drew1 | refine below_set ?_ GE124.out) | exact HB.out)) hb); clear BK124; clear HB; have HO136 := n0_; have BK124 := n1_; have HB := n2_; clear n0_ n1_ n2_; clear hb ho37; obtain ⟨Ao38, co38, eo38⟩ := Kd.R_slice HO136.out; subst eo38) | ((with_reducible refine gate_callee (f := 52) rfl ?_); refine goesL_ (some 41) rfl rfl Try.func52 (by kernel_rfl) rfl #[.int .i64 a1, .slice Ao38 y134.length co38] rfl (by (try simp only [List.map_toArray, List.map_cons, List.map_nil]); first | done | rfl | (simp only [List.length_drop, List.length_take]; rfl)) ?_; (with_reducible refine (codemasonref_Inside.calls kj9 a1 _ _ y134 true _ ?side1 ?side2 A30.out).mono ?_); (case side1 => repeat (first | exact (Kd.R_reads' HO136.out).2.2 | (with_reducible refine Kd.C_alloc ?_ _) | (with_reducible refine Kd.C_drewN ?_ _) | (with_reducible refine Kd.C_drew ?_))); (case side2 => exact (Kd.R_reads' HO136.out).2.1); rintro e w' ⟨rfl, ⟨nd, rfl⟩⟩; refine ⟨_, rfl, ?_⟩; have hcz39_0 : w36.cell? ⟨gb124, 0, none⟩ = some (.int .i64 a2_0) := (blk_cell BK124.out 0).trans rfl; have hcz39_1 : w36.cell? ⟨gb124, 1, none⟩ = some (.int .i64 a2_1) := (blk_cell BK124.out 1).trans rfl; have hcz39_2 : w36.cell? ⟨gb124, 2, none⟩ = some (.int .i64 a2_2) := (blk_cell BK124.out 2).trans rfl; have hcz39_3 : w36.cell? ⟨gb124, 3, none⟩ = some (.int .i64 a2_3) := (blk_cell BK124.out 3).trans rfl; have hcz39_4 : w36.cell? ⟨gb124, 4, none⟩ = some (.int .i64 a2_4) := (blk_cell BK124.out 4).trans rfl; have hfz39_0 := blk_frozen BK124.out 0; have hfz39_1 := blk_frozen BK124.out 1; have hfz39_2 := blk_frozen BK124.out 2; have hfz39_3 := blk_frozen BK124.out 3; have hfz39_4 := blk_frozen BK124.out 4) | ((with_reducible refine gate_dst (N := 53) rfl ?_); (try (refine gate_guard (by rfl) ?_; dsimp only)); refine Kd.R_lit (Kd.int .i64) _ 3 ?hg (N := 53) ?hd (xs := ([a2_2, a2_3] : List Int)) (inner := [.int .i64 a2_2, .int .i64 a2_3]) (ok := fun _ => True) (okp := fun _ => True) ?hr ?hp (fun _ hk => hk) trivial (Below.refl _ _) (Nat.le_refl _) (by simp) ?_; (case hd => rfl); (case hg => rfl); (case hr => first | (go_simp; done) | (go_simp; rfl)); (case hp => exact (Reps.one (show Kd.M (Kd.int .i64) _ _ _ a2_2 [.int .i64 a2_2] from rfl) (Reps.one (show Kd.M (Kd.int .i64) _ _ _ a2_3 [.int .i64 a2_3] from rfl) (Reps.none _ _)))); intro v139 w40 ho41 hb hg_ hnew_; clear hg_ hnew_; (first | rw [← Ny138.out] at ho41 | (simp only [Int.reduceToNat] at ho41; rw [← Ny138.out] at ho41)); have n0_ := Aside0.mk (Kd.R_elder' (by (with_reducible repeat (first | apply Kd.R_alloc | apply Kd.R_drewN | apply Kd.R_drew)); exact HO136.out) (Kd.R_base ho41) hb); have n1_ := Aside0.mk (Kd.R_lower (Kd.R_new' ho41 (Kd.R_lt (by (with_reducible repeat (first | apply Kd.R_alloc | apply Kd.R_drewN | apply Kd.R_drew)); exact HO136.out))) (below_size (by repeat (first | (with_reducible first | exact HB.out | apply below_alloc | apply pw_below_drewN | apply below_drew1 | refine below_set ?_ GE124.out) | exact HB.out)))); have n2_ := Aside0.mk (blk_below (g := gb124) (o := .cells #[.int .i64 a2_0, .int .i64 a2_1, .int .i64 a2_2, .int .i64 a2_3, .int .i64 a2_4] 111 (0, 0)) (by (with_reducible repeat (first | refine blk_drewN ?_ _ | refine blk_drew ?_ | refine blk_alloc ?_ _)); exact BK124.out) hb); have n3_ := Aside0.mk (below_step (by repeat (first | (with_reducible first | exact HB.out | apply below_alloc | apply pw_below_drewN | apply below_drew1 | refine below_set ?_ GE124.out) | exact HB.out)) hb); clear HO136; clear BK124; clear HB; have HO136 := n0_; have HO140 := n1_; have BK124 := n2_; have HB := n3_; clear n0_ n1_ n2_ n3_; clear hb ho41; obtain ⟨Ao42, co42, eo42⟩ := Kd.R_slice HO140.out; subst eo42) | (go_at_call 52; (with_reducible refine (codemasonref_Inside.calls kj9 a1 _ _ y138 true _ ?side1 ?side2 A33.out).mono ?_); (case side1 => repeat (first | exact (Kd.R_reads' HO140.out).2.2 | (with_reducible refine Kd.C_alloc ?_ _) | (with_reducible refine Kd.C_drewN ?_ _) | (with_reducible refine Kd.C_drew ?_))); (case side2 => exact (Kd.R_reads' HO140.out).2.1); rintro e w' ⟨rfl, ⟨nd, rfl⟩⟩))
                    go_ret
                    exact ⟨by first | rfl | (simp [errW_none, errW_some] <;> rfl) | (simp [*, errW_none, errW_some] <;> rfl), by repeat (first | (with_reducible first | exact HB.out | apply below_alloc | apply pw_below_drewN | apply below_drew1 | refine below_set ?_ GE124.out) | exact HB.out)⟩
                  · replace c34 := Bool.eq_false_iff.mpr c34
                    subst c34
                    have H1 : (some 2) = some r := by rw [if_neg (show ¬ (false = true) by decide)] at H; exact H
                    clear H
                    have H := H1
                    clear H1
                    obtain rfl := Option.some.inj H
                    have hcz43_0 : wc.cell? ⟨gb124, 0, none⟩ = some (.int .i64 a2_0) := (blk_cell BK124.out 0).trans rfl
                    have hcz43_1 : wc.cell? ⟨gb124, 1, none⟩ = some (.int .i64 a2_1) := (blk_cell BK124.out 1).trans rfl
                    have hcz43_2 : wc.cell? ⟨gb124, 2, none⟩ = some (.int .i64 a2_2) := (blk_cell BK124.out 2).trans rfl
                    have hcz43_3 : wc.cell? ⟨gb124, 3, none⟩ = some (.int .i64 a2_3) := (blk_cell BK124.out 3).trans rfl
                    have hcz43_4 : wc.cell? ⟨gb124, 4, none⟩ = some (.int .i64 a2_4) := (blk_cell BK124.out 4).trans rfl
                    have hfz43_0 := blk_frozen BK124.out 0
                    have hfz43_1 := blk_frozen BK124.out 1
                    have hfz43_2 := blk_frozen BK124.out 2
                    have hfz43_3 := blk_frozen BK124.out 3
                    have hfz43_4 := blk_frozen BK124.out 4
                    go_wp2_with (first | ((with_reducible refine gate_dst (N := 40) rfl ?_); (try (refine gate_guard (by rfl) ?_; dsimp only)); refine Kd.R_lit (Kd.int .i64) _ 3 ?hg (N := 40) ?hd (xs := ([a2_1] : List Int)) (inner := [.int .i64 a2_1]) (ok := fun _ => True) (okp := fun _ => True) ?hr ?hp (fun _ hk => hk) trivial (Below.refl _ _) (Nat.le_refl _) (by simp) ?_; (case hd => rfl); (case hg => rfl); (case hr => first | (go_simp; done) | (go_simp; rfl)); (case hp => exact (Reps.one (show Kd.M (Kd.int .i64) _ _ _ a2_1 [.int .i64 a2_1] from rfl) (Reps.none _ _))); intro v135 w44 ho45 hb hg_ hnew_; clear hg_ hnew_; (first | rw [← Ny134.out] at ho45 | (simp only [Int.reduceToNat] at ho45; rw [← Ny134.out] at ho45)); have n0_ := Aside0.mk (Kd.R_lower ho45 (below_size (by repeat (first | (with_reducible first | exact HB.out | apply below_alloc | apply pw_below_drewN | apply below_drew1 | refine below_set ?_ GE124.out) | exact HB.out)))); have n1_ := Aside0.mk (blk_below (g := gb124) (o := .cells #[.int .i64 a2_0, .int .i64 a2_1, .int .i64 a2_2, .int .i64 a2_3, .int .i64 a2_4] 111 (0, 0)) (by (with_reducible repeat (first | refine blk_drewN ?_ _ | refine blk_drew ?_ | refine blk_alloc ?_ _)); exact BK124.out) hb); have n2_ := Aside0.mk (below_step (by repeat (first | (with_reducible first | exact HB.out | apply below_alloc | apply pw_below_drewN | apply below_drew1 | refine below_set ?_ GE124.out) | exact HB.out)) hb); clear BK124; clear HB; have HO136 := n0_; have BK124 := n1_; have HB := n2_; clear n0_ n1_ n2_; clear hb ho45; obtain ⟨Ao46, co46, eo46⟩ := Kd.R_slice HO136.out; subst eo46) | ((with_reducible refine gate_callee (f := 52) rfl ?_); refine goesL_ (some 41) rfl rfl Try.func52 (by kernel_rfl) rfl #[.int .i64 a1, .slice Ao46 y134.length co46] rfl (by (try simp only [List.map_toArray, List.map_cons, List.map_nil]); first | done | rfl | (simp only [List.length_drop, List.length_take]; rfl)) ?_; (with_reducible refine (codemasonref_Inside.calls kj9 a1 _ _ y134 true _ ?side1 ?side2 A30.out).mono ?_); (case side1 => repeat (first | exact (Kd.R_reads' HO136.out).2.2 | (with_reducible refine Kd.C_alloc ?_ _) | (with_reducible refine Kd.C_drewN ?_ _) | (with_reducible refine Kd.C_drew ?_))); (case side2 => exact (Kd.R_reads' HO136.out).2.1); rintro e w' ⟨rfl, ⟨nd, rfl⟩⟩; refine ⟨_, rfl, ?_⟩; have hcz47_0 : w44.cell? ⟨gb124, 0, none⟩ = some (.int .i64 a2_0) := (blk_cell BK124.out 0).trans rfl; have hcz47_1 : w44.cell? ⟨gb124, 1, none⟩ = some (.int .i64 a2_1) := (blk_cell BK124.out 1).trans rfl; have hcz47_2 : w44.cell? ⟨gb124, 2, none⟩ = some (.int .i64 a2_2) := (blk_cell BK124.out 2).trans rfl; have hcz47_3 : w44.cell? ⟨gb124, 3, none⟩ = some (.int .i64 a2_3) := (blk_cell BK124.out 3).trans rfl; have hcz47_4 : w44.cell? ⟨gb124, 4, none⟩ = some (.int .i64 a2_4) := (blk_cell BK124.out 4).trans rfl; have hfz47_0 := blk_frozen BK124.out 0; have hfz47_1 := blk_frozen BK124.out 1; have hfz47_2 := blk_frozen BK124.out 2; have hfz47_3 := blk_frozen BK124.out 3; have hfz47_4 := blk_frozen BK124.out 4) | ((with_reducible refine gate_dst (N := 53) rfl ?_); (try (refine gate_guard (by rfl) ?_; dsimp only)); refine Kd.R_lit (Kd.int .i64) _ 3 ?hg (N := 53) ?hd (xs := ([a2_2, a2_3] : List Int)) (inner := [.int .i64 a2_2, .int .i64 a2_3]) (ok := fun _ => True) (okp := fun _ => True) ?hr ?hp (fun _ hk => hk) trivial (Below.refl _ _) (Nat.le_refl _) (by simp) ?_; (case hd => rfl); (case hg => rfl); (case hr => first | (go_simp; done) | (go_simp; rfl)); (case hp => exact (Reps.one (show Kd.M (Kd.int .i64) _ _ _ a2_2 [.int .i64 a2_2] from rfl) (Reps.one (show Kd.M (Kd.int .i64) _ _ _ a2_3 [.int .i64 a2_3] from rfl) (Reps.none _ _)))); intro v139 w48 ho49 hb hg_ hnew_; clear hg_ hnew_; (first | rw [← Ny138.out] at ho49 | (simp only [Int.reduceToNat] at ho49; rw [← Ny138.out] at ho49)); have n0_ := Aside0.mk (Kd.R_elder' (by (with_reducible repeat (first | apply Kd.R_alloc | apply Kd.R_drewN | apply Kd.R_drew)); exact HO136.out) (Kd.R_base ho49) hb); have n1_ := Aside0.mk (Kd.R_lower (Kd.R_new' ho49 (Kd.R_lt (by (with_reducible repeat (first | apply Kd.R_alloc | apply Kd.R_drewN | apply Kd.R_drew)); exact HO136.out))) (below_size (by repeat (first | (with_reducible first | exact HB.out | apply below_alloc | apply pw_below_drewN | apply below_drew1 | refine below_set ?_ GE124.out) | exact HB.out)))); have n2_ := Aside0.mk (blk_below (g := gb124) (o := .cells #[.int .i64 a2_0, .int .i64 a2_1, .int .i64 a2_2, .int .i64 a2_3, .int .i64 a2_4] 111 (0, 0)) (by (with_reducible repeat (first | refine blk_drewN ?_ _ | refine blk_drew ?_ | refine blk_alloc ?_ _)); exact BK124.out) hb); have n3_ := Aside0.mk (below_step (by repeat (first | (with_reducible first | exact HB.out | apply below_alloc | apply pw_below_drewN | apply below_drew1 | refine below_set ?_ GE124.out) | exact HB.out)) hb); clear HO136; clear BK124; clear HB; have HO136 := n0_; have HO140 := n1_; have BK124 := n2_; have HB := n3_; clear n0_ n1_ n2_ n3_; clear hb ho49; obtain ⟨Ao50, co50, eo50⟩ := Kd.R_slice HO140.out; subst eo50) | (go_at_call 52; (with_reducible refine (codemasonref_Inside.calls kj9 a1 _ _ y138 false _ ?side1 ?side2 A33.out).mono ?_); (case side1 => repeat (first | exact (Kd.R_reads' HO140.out).2.2 | (with_reducible refine Kd.C_alloc ?_ _) | (with_reducible refine Kd.C_drewN ?_ _) | (with_reducible refine Kd.C_drew ?_))); (case side2 => exact (Kd.R_reads' HO140.out).2.1); rintro e w' ⟨rfl, ⟨nd, rfl⟩⟩))
                    go_ret
                    exact ⟨by first | rfl | (simp [errW_none, errW_some] <;> rfl) | (simp [*, errW_none, errW_some] <;> rfl), by repeat (first | (with_reducible first | exact HB.out | apply below_alloc | apply pw_below_drewN | apply below_drew1 | refine below_set ?_ GE124.out) | exact HB.out)⟩
                · rw [if_neg c32] at H
                  have c32b0 : decide (3 ≤ a2_0) = false := decide_eq_false c32
                  clear c32
                  obtain rfl := Option.some.inj H
                  have hcz51_0 : wc.cell? ⟨gb124, 0, none⟩ = some (.int .i64 a2_0) := (blk_cell BK124.out 0).trans rfl
                  have hcz51_1 : wc.cell? ⟨gb124, 1, none⟩ = some (.int .i64 a2_1) := (blk_cell BK124.out 1).trans rfl
                  have hcz51_2 : wc.cell? ⟨gb124, 2, none⟩ = some (.int .i64 a2_2) := (blk_cell BK124.out 2).trans rfl
                  have hcz51_3 : wc.cell? ⟨gb124, 3, none⟩ = some (.int .i64 a2_3) := (blk_cell BK124.out 3).trans rfl
                  have hcz51_4 : wc.cell? ⟨gb124, 4, none⟩ = some (.int .i64 a2_4) := (blk_cell BK124.out 4).trans rfl
                  have hfz51_0 := blk_frozen BK124.out 0
                  have hfz51_1 := blk_frozen BK124.out 1
                  have hfz51_2 := blk_frozen BK124.out 2
                  have hfz51_3 := blk_frozen BK124.out 3
                  have hfz51_4 := blk_frozen BK124.out 4
                  go_wp2_with (first | ((with_reducible refine gate_dst (N := 40) rfl ?_); (try (refine gate_guard (by rfl) ?_; dsimp only)); refine Kd.R_lit (Kd.int .i64) _ 3 ?hg (N := 40) ?hd (xs := ([a2_1] : List Int)) (inner := [.int .i64 a2_1]) (ok := fun _ => True) (okp := fun _ => True) ?hr ?hp (fun _ hk => hk) trivial (Below.refl _ _) (Nat.le_refl _) (by simp) ?_; (case hd => rfl); (case hg => rfl); (case hr => first | (go_simp; done) | (go_simp; rfl)); (case hp => exact (Reps.one (show Kd.M (Kd.int .i64) _ _ _ a2_1 [.int .i64 a2_1] from rfl) (Reps.none _ _))); intro v135 w52 ho53 hb hg_ hnew_; clear hg_ hnew_; (first | rw [← Ny134.out] at ho53 | (simp only [Int.reduceToNat] at ho53; rw [← Ny134.out] at ho53)); have n0_ := Aside0.mk (Kd.R_lower ho53 (below_size (by repeat (first | (with_reducible first | exact HB.out | apply below_alloc | apply pw_below_drewN | apply below_drew1 | refine below_set ?_ GE124.out) | exact HB.out)))); have n1_ := Aside0.mk (blk_below (g := gb124) (o := .cells #[.int .i64 a2_0, .int .i64 a2_1, .int .i64 a2_2, .int .i64 a2_3, .int .i64 a2_4] 111 (0, 0)) (by (with_reducible repeat (first | refine blk_drewN ?_ _ | refine blk_drew ?_ | refine blk_alloc ?_ _)); exact BK124.out) hb); have n2_ := Aside0.mk (below_step (by repeat (first | (with_reducible first | exact HB.out | apply below_alloc | apply pw_below_drewN | apply below_drew1 | refine below_set ?_ GE124.out) | exact HB.out)) hb); clear BK124; clear HB; have HO136 := n0_; have BK124 := n1_; have HB := n2_; clear n0_ n1_ n2_; clear hb ho53; obtain ⟨Ao54, co54, eo54⟩ := Kd.R_slice HO136.out; subst eo54) | ((with_reducible refine gate_callee (f := 52) rfl ?_); refine goesL_ (some 41) rfl rfl Try.func52 (by kernel_rfl) rfl #[.int .i64 a1, .slice Ao54 y134.length co54] rfl (by (try simp only [List.map_toArray, List.map_cons, List.map_nil]); first | done | rfl | (simp only [List.length_drop, List.length_take]; rfl)) ?_; (with_reducible refine (codemasonref_Inside.calls kj9 a1 _ _ y134 true _ ?side1 ?side2 A30.out).mono ?_); (case side1 => repeat (first | exact (Kd.R_reads' HO136.out).2.2 | (with_reducible refine Kd.C_alloc ?_ _) | (with_reducible refine Kd.C_drewN ?_ _) | (with_reducible refine Kd.C_drew ?_))); (case side2 => exact (Kd.R_reads' HO136.out).2.1); rintro e w' ⟨rfl, ⟨nd, rfl⟩⟩; refine ⟨_, rfl, ?_⟩; have hcz55_0 : w52.cell? ⟨gb124, 0, none⟩ = some (.int .i64 a2_0) := (blk_cell BK124.out 0).trans rfl; have hcz55_1 : w52.cell? ⟨gb124, 1, none⟩ = some (.int .i64 a2_1) := (blk_cell BK124.out 1).trans rfl; have hcz55_2 : w52.cell? ⟨gb124, 2, none⟩ = some (.int .i64 a2_2) := (blk_cell BK124.out 2).trans rfl; have hcz55_3 : w52.cell? ⟨gb124, 3, none⟩ = some (.int .i64 a2_3) := (blk_cell BK124.out 3).trans rfl; have hcz55_4 : w52.cell? ⟨gb124, 4, none⟩ = some (.int .i64 a2_4) := (blk_cell BK124.out 4).trans rfl; have hfz55_0 := blk_frozen BK124.out 0; have hfz55_1 := blk_frozen BK124.out 1; have hfz55_2 := blk_frozen BK124.out 2; have hfz55_3 := blk_frozen BK124.out 3; have hfz55_4 := blk_frozen BK124.out 4))
                  go_ret
                  exact ⟨by first | rfl | (simp [errW_none, errW_some] <;> rfl) | (simp [*, errW_none, errW_some] <;> rfl), by repeat (first | (with_reducible first | exact HB.out | apply below_alloc | apply pw_below_drewN | apply below_drew1 | refine below_set ?_ GE124.out) | exact HB.out)⟩
              · replace c31 := Bool.eq_false_iff.mpr c31
                subst c31
                have H1 : (some 2) = some r := by rw [if_neg (show ¬ (false = true) by decide)] at H; exact H
                clear H
                have H := H1
                clear H1
                obtain rfl := Option.some.inj H
                have hcz56_0 : wc.cell? ⟨gb124, 0, none⟩ = some (.int .i64 a2_0) := (blk_cell BK124.out 0).trans rfl
                have hcz56_1 : wc.cell? ⟨gb124, 1, none⟩ = some (.int .i64 a2_1) := (blk_cell BK124.out 1).trans rfl
                have hcz56_2 : wc.cell? ⟨gb124, 2, none⟩ = some (.int .i64 a2_2) := (blk_cell BK124.out 2).trans rfl
                have hcz56_3 : wc.cell? ⟨gb124, 3, none⟩ = some (.int .i64 a2_3) := (blk_cell BK124.out 3).trans rfl
                have hcz56_4 : wc.cell? ⟨gb124, 4, none⟩ = some (.int .i64 a2_4) := (blk_cell BK124.out 4).trans rfl
                have hfz56_0 := blk_frozen BK124.out 0
                have hfz56_1 := blk_frozen BK124.out 1
                have hfz56_2 := blk_frozen BK124.out 2
                have hfz56_3 := blk_frozen BK124.out 3
                have hfz56_4 := blk_frozen BK124.out 4
                go_wp2_with (first | ((with_reducible refine gate_dst (N := 40) rfl ?_); (try (refine gate_guard (by rfl) ?_; dsimp only)); refine Kd.R_lit (Kd.int .i64) _ 3 ?hg (N := 40) ?hd (xs := ([a2_1] : List Int)) (inner := [.int .i64 a2_1]) (ok := fun _ => True) (okp := fun _ => True) ?hr ?hp (fun _ hk => hk) trivial (Below.refl _ _) (Nat.le_refl _) (by simp) ?_; (case hd => rfl); (case hg => rfl); (case hr => first | (go_simp; done) | (go_simp; rfl)); (case hp => exact (Reps.one (show Kd.M (Kd.int .i64) _ _ _ a2_1 [.int .i64 a2_1] from rfl) (Reps.none _ _))); intro v135 w57 ho58 hb hg_ hnew_; clear hg_ hnew_; (first | rw [← Ny134.out] at ho58 | (simp only [Int.reduceToNat] at ho58; rw [← Ny134.out] at ho58)); have n0_ := Aside0.mk (Kd.R_lower ho58 (below_size (by repeat (first | (with_reducible first | exact HB.out | apply below_alloc | apply pw_below_drewN | apply below_drew1 | refine below_set ?_ GE124.out) | exact HB.out)))); have n1_ := Aside0.mk (blk_below (g := gb124) (o := .cells #[.int .i64 a2_0, .int .i64 a2_1, .int .i64 a2_2, .int .i64 a2_3, .int .i64 a2_4] 111 (0, 0)) (by (with_reducible repeat (first | refine blk_drewN ?_ _ | refine blk_drew ?_ | refine blk_alloc ?_ _)); exact BK124.out) hb); have n2_ := Aside0.mk (below_step (by repeat (first | (with_reducible first | exact HB.out | apply below_alloc | apply pw_below_drewN | apply below_drew1 | refine below_set ?_ GE124.out) | exact HB.out)) hb); clear BK124; clear HB; have HO136 := n0_; have BK124 := n1_; have HB := n2_; clear n0_ n1_ n2_; clear hb ho58; obtain ⟨Ao59, co59, eo59⟩ := Kd.R_slice HO136.out; subst eo59) | ((with_reducible refine gate_callee (f := 52) rfl ?_); refine goesL_ (some 41) rfl rfl Try.func52 (by kernel_rfl) rfl #[.int .i64 a1, .slice Ao59 y134.length co59] rfl (by (try simp only [List.map_toArray, List.map_cons, List.map_nil]); first | done | rfl | (simp only [List.length_drop, List.length_take]; rfl)) ?_; (with_reducible refine (codemasonref_Inside.calls kj9 a1 _ _ y134 false _ ?side1 ?side2 A30.out).mono ?_); (case side1 => repeat (first | exact (Kd.R_reads' HO136.out).2.2 | (with_reducible refine Kd.C_alloc ?_ _) | (with_reducible refine Kd.C_drewN ?_ _) | (with_reducible refine Kd.C_drew ?_))); (case side2 => exact (Kd.R_reads' HO136.out).2.1); rintro e w' ⟨rfl, ⟨nd, rfl⟩⟩; refine ⟨_, rfl, ?_⟩))
                go_ret
                exact ⟨by first | rfl | (simp [errW_none, errW_some] <;> rfl) | (simp [*, errW_none, errW_some] <;> rfl), by repeat (first | (with_reducible first | exact HB.out | apply below_alloc | apply pw_below_drewN | apply below_drew1 | refine below_set ?_ GE124.out) | exact HB.out)⟩
end Go.Proofs.Ytaicamjpcnhjcaa.PA
namespace Go.Proofs.Ytaicamjpcnhjcaa.PA
open Go.RowKit Go.Proofs.YtaicamjpcnhjcaaW.PrintWords Go.Proofs.YtaicamjpcnhjcaaW.PrintLast Go.Proofs.YtaicamjpcnhjcaaW.PrintMore
set_option linter.unusedVariables false
set_option linter.unusedSimpArgs false
mutual
def codemasonref_ProgCheck.l0 : Nat → Int → List (S79) → Int → List (S79) → Int → Int → Option (Int)
  | 0, _, _, _, _, _, _ => none
  | k + 1, x0, x1, x5, x13, x14, x15 => if x15 < x14 then (if 0 ≤ x15 then (if x15 < (x13.length : Int) then (codemasonref_ProgCheck.l0 k x0 x1 (wrap64 (x5 + (((rd_T79 x13 x15).f0).length : Int))) x13 x14 (wrap64 (x15 + 1))) else (none)) else (none)) else (if x0 < 1 then (codemasonref_ProgCheck.j1 k x0 x1 true) else (if x0 > 6 then (codemasonref_ProgCheck.j1 k x0 x1 true) else (if (x1.length : Int) < 1 then (codemasonref_ProgCheck.j1 k x0 x1 true) else (if (x1.length : Int) > 8 then (codemasonref_ProgCheck.j1 k x0 x1 true) else (codemasonref_ProgCheck.j1 k x0 x1 (decide (x5 > 20)))))))
def codemasonref_ProgCheck.j1 : Nat → Int → List (S79) → Bool → Option (Int)
  | 0, _, _, _ => none
  | k + 1, x0, x1, x44 => if x44 = true then (some 1) else (codemasonref_ProgCheck.l1 k x0 x1 x1 (x1.length : Int) 0)
def codemasonref_ProgCheck.l1 : Nat → Int → List (S79) → List (S79) → Int → Int → Option (Int)
  | 0, _, _, _, _, _ => none
  | k + 1, x0, x1, x45, x46, x47 => if x47 < x46 then (if 0 ≤ x47 then (if x47 < (x45.length : Int) then (codemasonref_ProgCheck.l2 k x0 x1 x45 x46 x47 ((rd_T79 x45 x47).f0) (((rd_T79 x45 x47).f0).length : Int) 0 ((rd_T79 x45 x47).f0) ((rd_T79 x45 x47).f1) ((rd_T79 x45 x47).f2) ((rd_T79 x45 x47).f3)) else (none)) else (none)) else (some 0)
def codemasonref_ProgCheck.l2 : Nat → Int → List (S79) → List (S79) → Int → Int → List (S111) → Int → Int → List (S111) → Int → Int → Int → Option (Int)
  | 0, _, _, _, _, _, _, _, _, _, _, _, _ => none
  | k + 1, x0, x1, x45, x46, x47, x52, x53, x54, x146000, x146001, x146002, x146003 => if x54 < x53 then (if 0 ≤ x54 then (if x54 < (x52.length : Int) then ((codemasonref_StepCheck.f k x0 x0 ((rd_T111 x52 x54).f0) ((rd_T111 x52 x54).f1) ((rd_T111 x52 x54).f2) ((rd_T111 x52 x54).f3) ((rd_T111 x52 x54).f4)).bind fun t148 => (if t148 = 0 then (codemasonref_ProgCheck.l2 k x0 x1 x45 x46 x47 x52 x53 (wrap64 (x54 + 1)) x146000 x146001 x146002 x146003) else (some t148))) else (none)) else (none)) else (if x146001 = (-1) then (codemasonref_ProgCheck.j4 k x0 x1 x45 x46 x47 false x146000 x146001 x146002 x146003) else ((codemasonref_Inside.f k x0 (([x146001] : List Int))).bind fun t152 => (codemasonref_ProgCheck.j4 k x0 x1 x45 x46 x47 (!t152) x146000 x146001 x146002 x146003)))
def codemasonref_ProgCheck.j4 : Nat → Int → List (S79) → List (S79) → Int → Int → Bool → List (S111) → Int → Int → Int → Option (Int)
  | 0, _, _, _, _, _, _, _, _, _, _ => none
  | k + 1, x0, x1, x45, x46, x47, x76, x146000, x146001, x146002, x146003 => if x76 = true then (some 2) else (if x146001 = (-1) then (if x146002 = (-1) then (codemasonref_ProgCheck.j5 k x0 x1 x45 x46 x47 false x146000 x146001 x146002 x146003) else ((codemasonref_Inside.f k (x1.length : Int) (([x146002] : List Int))).bind fun t156 => (codemasonref_ProgCheck.j5 k x0 x1 x45 x46 x47 (!t156) x146000 x146001 x146002 x146003))) else (codemasonref_ProgCheck.j5 k x0 x1 x45 x46 x47 false x146000 x146001 x146002 x146003))
def codemasonref_ProgCheck.j5 : Nat → Int → List (S79) → List (S79) → Int → Int → Bool → List (S111) → Int → Int → Int → Option (Int)
  | 0, _, _, _, _, _, _, _, _, _, _ => none
  | k + 1, x0, x1, x45, x46, x47, x93, x146000, x146001, x146002, x146003 => if x93 = true then (some 3) else (if x146001 ≥ 0 then ((codemasonref_Inside.f k (x1.length : Int) (([x146002, x146003] : List Int))).bind fun t160 => (if t160 = true then (codemasonref_ProgCheck.l1 k x0 x1 x45 x46 (wrap64 (x47 + 1))) else (some 3))) else (codemasonref_ProgCheck.l1 k x0 x1 x45 x46 (wrap64 (x47 + 1))))
end
def codemasonref_ProgCheck.f (k : Nat) (a0 : Int) (l1 : List (S79)) : Option (Int) := codemasonref_ProgCheck.l0 k a0 l1 0 l1 (l1.length : Int) 0
theorem codemasonref_ProgCheck.mono_l : ∀ k, (∀ y0 y1 y2 y3 y4 y5, LeO (codemasonref_ProgCheck.l0 k y0 y1 y2 y3 y4 y5) (codemasonref_ProgCheck.l0 (k + 1) y0 y1 y2 y3 y4 y5)) ∧ (∀ y0 y1 y2, LeO (codemasonref_ProgCheck.j1 k y0 y1 y2) (codemasonref_ProgCheck.j1 (k + 1) y0 y1 y2)) ∧ (∀ y0 y1 y2 y3 y4, LeO (codemasonref_ProgCheck.l1 k y0 y1 y2 y3 y4) (codemasonref_ProgCheck.l1 (k + 1) y0 y1 y2 y3 y4)) ∧ (∀ y0 y1 y2 y3 y4 y5 y6 y7 y8 y9 y10 y11, LeO (codemasonref_ProgCheck.l2 k y0 y1 y2 y3 y4 y5 y6 y7 y8 y9 y10 y11) (codemasonref_ProgCheck.l2 (k + 1) y0 y1 y2 y3 y4 y5 y6 y7 y8 y9 y10 y11)) ∧ (∀ y0 y1 y2 y3 y4 y5 y6 y7 y8 y9, LeO (codemasonref_ProgCheck.j4 k y0 y1 y2 y3 y4 y5 y6 y7 y8 y9) (codemasonref_ProgCheck.j4 (k + 1) y0 y1 y2 y3 y4 y5 y6 y7 y8 y9)) ∧ (∀ y0 y1 y2 y3 y4 y5 y6 y7 y8 y9, LeO (codemasonref_ProgCheck.j5 k y0 y1 y2 y3 y4 y5 y6 y7 y8 y9) (codemasonref_ProgCheck.j5 (k + 1) y0 y1 y2 y3 y4 y5 y6 y7 y8 y9))
  | 0 => ⟨fun _ _ _ _ _ _ r h => by simp [codemasonref_ProgCheck.l0] at h, fun _ _ _ r h => by simp [codemasonref_ProgCheck.j1] at h, fun _ _ _ _ _ r h => by simp [codemasonref_ProgCheck.l1] at h, fun _ _ _ _ _ _ _ _ _ _ _ _ r h => by simp [codemasonref_ProgCheck.l2] at h, fun _ _ _ _ _ _ _ _ _ _ r h => by simp [codemasonref_ProgCheck.j4] at h, fun _ _ _ _ _ _ _ _ _ _ r h => by simp [codemasonref_ProgCheck.j5] at h⟩
  | k + 1 => by
    obtain ⟨ih0, ih1, ih2, ih3, ih4, ih5⟩ := codemasonref_ProgCheck.mono_l k
    refine ⟨?_, ?_, ?_, ?_, ?_, ?_⟩
    · intro y0 y1 y2 y3 y4 y5
      unfold codemasonref_ProgCheck.l0
      repeat' first
      | (with_reducible exact ih0 _ _ _ _ _ _)
      | (with_reducible exact ih1 _ _ _)
      | (with_reducible exact ih2 _ _ _ _ _)
      | (with_reducible exact ih3 _ _ _ _ _ _ _ _ _ _ _ _)
      | (with_reducible exact ih4 _ _ _ _ _ _ _ _ _ _)
      | (with_reducible exact ih5 _ _ _ _ _ _ _ _ _ _)
      | (with_reducible exact codemasonref_Inside.mono _ _ _)
      | (with_reducible exact codemasonref_StepCheck.mono _ _ _ _ _ _ _ _)
      | (with_reducible exact LeO.refl _)
      | (with_reducible exact LeO.none _)
      | (with_reducible refine LeO.ite ?_ ?_)
      | (with_reducible refine LeO.bind ?_ (fun _ => ?_))
      | exact ih0 _ _ _ _ _ _
      | exact ih1 _ _ _
      | exact ih2 _ _ _ _ _
      | exact ih3 _ _ _ _ _ _ _ _ _ _ _ _
      | exact ih4 _ _ _ _ _ _ _ _ _ _
      | exact ih5 _ _ _ _ _ _ _ _ _ _
      | exact codemasonref_Inside.mono _ _ _
      | exact codemasonref_StepCheck.mono _ _ _ _ _ _ _ _
      | exact LeO.none _
      | refine LeO.ite ?_ ?_
      | refine LeO.bind ?_ (fun _ => ?_)
    · intro y0 y1 y2
      unfold codemasonref_ProgCheck.j1
      repeat' first
      | (with_reducible exact ih0 _ _ _ _ _ _)
      | (with_reducible exact ih1 _ _ _)
      | (with_reducible exact ih2 _ _ _ _ _)
      | (with_reducible exact ih3 _ _ _ _ _ _ _ _ _ _ _ _)
      | (with_reducible exact ih4 _ _ _ _ _ _ _ _ _ _)
      | (with_reducible exact ih5 _ _ _ _ _ _ _ _ _ _)
      | (with_reducible exact codemasonref_Inside.mono _ _ _)
      | (with_reducible exact codemasonref_StepCheck.mono _ _ _ _ _ _ _ _)
      | (with_reducible exact LeO.refl _)
      | (with_reducible exact LeO.none _)
      | (with_reducible refine LeO.ite ?_ ?_)
      | (with_reducible refine LeO.bind ?_ (fun _ => ?_))
      | exact ih0 _ _ _ _ _ _
      | exact ih1 _ _ _
      | exact ih2 _ _ _ _ _
      | exact ih3 _ _ _ _ _ _ _ _ _ _ _ _
      | exact ih4 _ _ _ _ _ _ _ _ _ _
      | exact ih5 _ _ _ _ _ _ _ _ _ _
      | exact codemasonref_Inside.mono _ _ _
      | exact codemasonref_StepCheck.mono _ _ _ _ _ _ _ _
      | exact LeO.none _
      | refine LeO.ite ?_ ?_
      | refine LeO.bind ?_ (fun _ => ?_)
    · intro y0 y1 y2 y3 y4
      unfold codemasonref_ProgCheck.l1
      repeat' first
      | (with_reducible exact ih0 _ _ _ _ _ _)
      | (with_reducible exact ih1 _ _ _)
      | (with_reducible exact ih2 _ _ _ _ _)
      | (with_reducible exact ih3 _ _ _ _ _ _ _ _ _ _ _ _)
      | (with_reducible exact ih4 _ _ _ _ _ _ _ _ _ _)
      | (with_reducible exact ih5 _ _ _ _ _ _ _ _ _ _)
      | (with_reducible exact codemasonref_Inside.mono _ _ _)
      | (with_reducible exact codemasonref_StepCheck.mono _ _ _ _ _ _ _ _)
      | (with_reducible exact LeO.refl _)
      | (with_reducible exact LeO.none _)
      | (with_reducible refine LeO.ite ?_ ?_)
      | (with_reducible refine LeO.bind ?_ (fun _ => ?_))
      | exact ih0 _ _ _ _ _ _
      | exact ih1 _ _ _
      | exact ih2 _ _ _ _ _
      | exact ih3 _ _ _ _ _ _ _ _ _ _ _ _
      | exact ih4 _ _ _ _ _ _ _ _ _ _
      | exact ih5 _ _ _ _ _ _ _ _ _ _
      | exact codemasonref_Inside.mono _ _ _
      | exact codemasonref_StepCheck.mono _ _ _ _ _ _ _ _
      | exact LeO.none _
      | refine LeO.ite ?_ ?_
      | refine LeO.bind ?_ (fun _ => ?_)
    · intro y0 y1 y2 y3 y4 y5 y6 y7 y8 y9 y10 y11
      unfold codemasonref_ProgCheck.l2
      repeat' first
      | (with_reducible exact ih0 _ _ _ _ _ _)
      | (with_reducible exact ih1 _ _ _)
      | (with_reducible exact ih2 _ _ _ _ _)
      | (with_reducible exact ih3 _ _ _ _ _ _ _ _ _ _ _ _)
      | (with_reducible exact ih4 _ _ _ _ _ _ _ _ _ _)
      | (with_reducible exact ih5 _ _ _ _ _ _ _ _ _ _)
      | (with_reducible exact codemasonref_Inside.mono _ _ _)
      | (with_reducible exact codemasonref_StepCheck.mono _ _ _ _ _ _ _ _)
      | (with_reducible exact LeO.refl _)
      | (with_reducible exact LeO.none _)
      | (with_reducible refine LeO.ite ?_ ?_)
      | (with_reducible refine LeO.bind ?_ (fun _ => ?_))
      | exact ih0 _ _ _ _ _ _
      | exact ih1 _ _ _
      | exact ih2 _ _ _ _ _
      | exact ih3 _ _ _ _ _ _ _ _ _ _ _ _
      | exact ih4 _ _ _ _ _ _ _ _ _ _
      | exact ih5 _ _ _ _ _ _ _ _ _ _
      | exact codemasonref_Inside.mono _ _ _
      | exact codemasonref_StepCheck.mono _ _ _ _ _ _ _ _
      | exact LeO.none _
      | refine LeO.ite ?_ ?_
      | refine LeO.bind ?_ (fun _ => ?_)
    · intro y0 y1 y2 y3 y4 y5 y6 y7 y8 y9
      unfold codemasonref_ProgCheck.j4
      repeat' first
      | (with_reducible exact ih0 _ _ _ _ _ _)
      | (with_reducible exact ih1 _ _ _)
      | (with_reducible exact ih2 _ _ _ _ _)
      | (with_reducible exact ih3 _ _ _ _ _ _ _ _ _ _ _ _)
      | (with_reducible exact ih4 _ _ _ _ _ _ _ _ _ _)
      | (with_reducible exact ih5 _ _ _ _ _ _ _ _ _ _)
      | (with_reducible exact codemasonref_Inside.mono _ _ _)
      | (with_reducible exact codemasonref_StepCheck.mono _ _ _ _ _ _ _ _)
      | (with_reducible exact LeO.refl _)
      | (with_reducible exact LeO.none _)
      | (with_reducible refine LeO.ite ?_ ?_)
      | (with_reducible refine LeO.bind ?_ (fun _ => ?_))
      | exact ih0 _ _ _ _ _ _
      | exact ih1 _ _ _
      | exact ih2 _ _ _ _ _
      | exact ih3 _ _ _ _ _ _ _ _ _ _ _ _
      | exact ih4 _ _ _ _ _ _ _ _ _ _
      | exact ih5 _ _ _ _ _ _ _ _ _ _
      | exact codemasonref_Inside.mono _ _ _
      | exact codemasonref_StepCheck.mono _ _ _ _ _ _ _ _
      | exact LeO.none _
      | refine LeO.ite ?_ ?_
      | refine LeO.bind ?_ (fun _ => ?_)
    · intro y0 y1 y2 y3 y4 y5 y6 y7 y8 y9
      unfold codemasonref_ProgCheck.j5
      repeat' first
      | (with_reducible exact ih0 _ _ _ _ _ _)
      | (with_reducible exact ih1 _ _ _)
      | (with_reducible exact ih2 _ _ _ _ _)
      | (with_reducible exact ih3 _ _ _ _ _ _ _ _ _ _ _ _)
      | (with_reducible exact ih4 _ _ _ _ _ _ _ _ _ _)
      | (with_reducible exact ih5 _ _ _ _ _ _ _ _ _ _)
      | (with_reducible exact codemasonref_Inside.mono _ _ _)
      | (with_reducible exact codemasonref_StepCheck.mono _ _ _ _ _ _ _ _)
      | (with_reducible exact LeO.refl _)
      | (with_reducible exact LeO.none _)
      | (with_reducible refine LeO.ite ?_ ?_)
      | (with_reducible refine LeO.bind ?_ (fun _ => ?_))
      | exact ih0 _ _ _ _ _ _
      | exact ih1 _ _ _
      | exact ih2 _ _ _ _ _
      | exact ih3 _ _ _ _ _ _ _ _ _ _ _ _
      | exact ih4 _ _ _ _ _ _ _ _ _ _
      | exact ih5 _ _ _ _ _ _ _ _ _ _
      | exact codemasonref_Inside.mono _ _ _
      | exact codemasonref_StepCheck.mono _ _ _ _ _ _ _ _
      | exact LeO.none _
      | refine LeO.ite ?_ ?_
      | refine LeO.bind ?_ (fun _ => ?_)
theorem codemasonref_ProgCheck.mono : ∀ a0 a1 k, LeO (codemasonref_ProgCheck.f k a0 a1) (codemasonref_ProgCheck.f (k + 1) a0 a1) := by
  intro a0 a1 k
  obtain ⟨ih0, ih1, ih2, ih3, ih4, ih5⟩ := codemasonref_ProgCheck.mono_l k
  unfold codemasonref_ProgCheck.f
  repeat' first
      | (with_reducible exact ih0 _ _ _ _ _ _)
      | (with_reducible exact ih1 _ _ _)
      | (with_reducible exact ih2 _ _ _ _ _)
      | (with_reducible exact ih3 _ _ _ _ _ _ _ _ _ _ _ _)
      | (with_reducible exact ih4 _ _ _ _ _ _ _ _ _ _)
      | (with_reducible exact ih5 _ _ _ _ _ _ _ _ _ _)
      | (with_reducible exact codemasonref_Inside.mono _ _ _)
      | (with_reducible exact codemasonref_StepCheck.mono _ _ _ _ _ _ _ _)
      | (with_reducible exact LeO.refl _)
      | (with_reducible exact LeO.none _)
      | (with_reducible refine LeO.ite ?_ ?_)
      | (with_reducible refine LeO.bind ?_ (fun _ => ?_))
      | exact ih0 _ _ _ _ _ _
      | exact ih1 _ _ _
      | exact ih2 _ _ _ _ _
      | exact ih3 _ _ _ _ _ _ _ _ _ _ _ _
      | exact ih4 _ _ _ _ _ _ _ _ _ _
      | exact ih5 _ _ _ _ _ _ _ _ _ _
      | exact codemasonref_Inside.mono _ _ _
      | exact codemasonref_StepCheck.mono _ _ _ _ _ _ _ _
      | exact LeO.none _
      | refine LeO.ite ?_ ?_
      | refine LeO.bind ?_ (fun _ => ?_)
set_option maxHeartbeats 8000000 in
set_option maxRecDepth 100000 in
theorem codemasonref_ProgCheck.calls (k : Nat) (a0 : Int) (A1 : Option Addr) (c1 : Nat) (l1 : List (S79)) (r : Int) (w : World) (hr1 : Kd.C k79 w A1 l1.length l1) (hc1 : l1.length ≤ c1) (h : codemasonref_ProgCheck.f k a0 l1 = some r) :
    Calls Try.prog 22 #[.int .i64 a0, .slice A1 l1.length c1] w fun e w' => e = .returned (.int .i64 r) ∧ Below w.heap.size w w' := by
  have hu79 := Try.underlying79
  have hu111 := Try.underlying111
  have HR1 := Aside0.mk hr1
  have HC1 := Aside0.mk hc1
  clear hr1 hc1
  have HB := Aside0.mk (Below.refl w.heap.size w)
  have H : (codemasonref_ProgCheck.l0 k a0 l1 0 l1 (l1.length : Int) 0) = some r := h
  clear h
  have H' := Aside0.mk H
  clear H
  go_enter Try.func22, Try.ntmps22
  go_wp2
  go_loopg [5, 15] k (fun kq v5 v15 w' => ∃ (x5_1 : Int) (x15_1 : Int), v5 = .int .i64 x5_1 ∧ v15 = .int .i64 x15_1 ∧ Aside0 (codemasonref_ProgCheck.l0 kq a0 l1 x5_1 l1 (l1.length : Int) x15_1 = some r) ∧ Aside0 (kq ≤ k) ∧ Aside0 (Below w.heap.size w w'))
  case atStart => exact ⟨(0), (0), (by first | rfl | (simp; done) | (simp [*]; done)), (by first | rfl | (simp; done) | (simp [*]; done)), H', ⟨Nat.le_refl _⟩, ⟨by repeat (first | (with_reducible first | exact HB.out | apply below_alloc | apply pw_below_drewN | apply below_drew1) | exact HB.out)⟩⟩
  case round =>
    clear H'
    try clear c1
    try clear c2
    try clear p2
    obtain ⟨x5_1, x15_1, rfl, rfl, HA, HK1, HB⟩ := hrel
    cases gk with
    | zero => exact absurd HA.out (by simp [codemasonref_ProgCheck.l0])
    | succ k1 =>
      have H := HA.out
      clear HA
      simp only [codemasonref_ProgCheck.l0] at H
      by_cases c3 : x15_1 < (l1.length : Int)
      · rw [if_pos c3] at H
        have c3b0 : decide (x15_1 < (l1.length : Int)) = true := decide_eq_true c3
        clear c3
        by_cases c4 : 0 ≤ x15_1
        · rw [if_pos c4] at H
          have c4b0 : decide (0 ≤ x15_1) = true := decide_eq_true c4
          clear c4
          by_cases c5 : x15_1 < (l1.length : Int)
          · rw [if_pos c5] at H
            have c5b0 : decide (x15_1 < (l1.length : Int)) = true := decide_eq_true c5
            clear c5
            have H' := Aside0.mk H
            clear H
            have p142 : 0 ≤ (x15_1 : Int) := of_decide_eq_true (by first | (with_reducible assumption) | assumption)
            have q142 : x15_1 < (l1.length : Int) := of_decide_eq_true (by first | (with_reducible assumption) | assumption)
            obtain ⟨ad142, A142_0, c142_0, e142, hx142_0, hx142_1, hx142_2, hx142_3, hl142_0, hi142_0⟩ := at_T79 HR1.out x15_1 p142 q142
            cases e142
            replace hx142_0 := (HB.out.cell (World.block_lt_of_cell? w _ hx142_0)).trans hx142_0
            replace hx142_1 := (HB.out.cell (World.block_lt_of_cell? w _ hx142_1)).trans hx142_1
            replace hx142_2 := (HB.out.cell (World.block_lt_of_cell? w _ hx142_2)).trans hx142_2
            replace hx142_3 := (HB.out.cell (World.block_lt_of_cell? w _ hx142_3)).trans hx142_3
            have HR142_0 := Aside0.mk hi142_0
            have HC142_0 := Aside0.mk hl142_0
            clear hi142_0 hl142_0
            replace p142 := eq_true p142
            replace q142 := eq_true q142
            go_wp2_with (first | ((with_reducible refine gate_dst (N := 7) rfl ?_); (try (refine gate_guard (by rfl) ?_; dsimp only)); refine box_event ?hg (N := 7) ?hd (cs := #[.slice none 0 0, .int .i64 0, .int .i64 0, .int .i64 0]) (t := 79) ?hr ?_; (case hd => rfl); (case hg => rfl); (case hr => first | (go_simp; done) | (go_simp; rfl)); intro gb143 hg w6 hbox hb; have n0_ := Aside0.mk (below_step (by repeat (first | (with_reducible first | exact HB.out | apply below_alloc | apply pw_below_drewN | apply below_drew1) | exact HB.out)) hb); have n1_ := Aside0.mk (hbox); have n2_ := Aside0.mk ((by rw [hg]; exact (below_size (by repeat (first | (with_reducible first | exact HB.out | apply below_alloc | apply pw_below_drewN | apply below_drew1) | exact HB.out))) : w.heap.size ≤ gb143)); have n3_ := Aside0.mk ((by rw [hg]; exact (below_size (by repeat (first | (with_reducible first | exact HB.out | apply below_alloc | apply pw_below_drewN | apply below_drew1) | exact HB.out))) : w.heap.size ≤ gb143)); clear HB; have HB := n0_; have BK143 := n1_; have GW143 := n2_; have GE143 := n3_; clear n0_ n1_ n2_ n3_; clear hb hbox hg; have hcz7_0 : w6.cell? ⟨gb143, 0, none⟩ = some (.slice none 0 0) := (blk_cell BK143.out 0).trans rfl; have hcz7_1 : w6.cell? ⟨gb143, 1, none⟩ = some (.int .i64 0) := (blk_cell BK143.out 1).trans rfl; have hcz7_2 : w6.cell? ⟨gb143, 2, none⟩ = some (.int .i64 0) := (blk_cell BK143.out 2).trans rfl; have hcz7_3 : w6.cell? ⟨gb143, 3, none⟩ = some (.int .i64 0) := (blk_cell BK143.out 3).trans rfl; have hfz7_0 := blk_frozen BK143.out 0; have hfz7_1 := blk_frozen BK143.out 1; have hfz7_2 := blk_frozen BK143.out 2; have hfz7_3 := blk_frozen BK143.out 3))
            go_roundg k1
            case measure => have := HK1.out; omega
            case rel => exact ⟨(wrap64 (x5_1 + (((rd_T79 l1 x15_1).f0).length : Int))), (wrap64 (x15_1 + 1)), (by first | rfl | (simp; done) | (simp [*]; done)), (by first | rfl | (simp; done) | (simp [*]; done)), H', ⟨by have := HK1.out; omega⟩, ⟨by repeat (first | (with_reducible first | exact HB.out | apply below_alloc | apply pw_below_drewN | apply below_drew1 | refine below_set ?_ GE143.out) | exact HB.out)⟩⟩
          · rw [if_neg c5] at H
            exact absurd H (by simp)
        · rw [if_neg c4] at H
          exact absurd H (by simp)
      · rw [if_neg c3] at H
        have c3b0 : decide (x15_1 < (l1.length : Int)) = false := decide_eq_false c3
        clear c3
        have HC8 := Aside0.mk H
        clear H
        go_upto_region 7 with (fail)
        go_cut [44] (fun v44 wc => ∃ (kq : Nat) (x44_7 : Bool), v44 = .bool x44_7 ∧ Aside0 (codemasonref_ProgCheck.j1 kq a0 l1 x44_7 = some r) ∧ Aside0 (kq ≤ k1) ∧ Aside0 (Below w.heap.size w wc))
        case first =>
          have H := HC8.out
          clear HC8
          by_cases c9 : a0 < 1
          · rw [if_pos c9] at H
            have c9b0 : decide (a0 < 1) = true := decide_eq_true c9
            clear c9
            (first | rw [c9b0] | (simp only [i64_w, i32_w]; rw [c9b0]) | skip)
            have H' := Aside0.mk H
            clear H
            go_wp2
            go_meet
            case rel => exact ⟨_, (true), (by first | rfl | (simp; done) | (simp [*]; done)), H', ⟨by have := HK1.out; first | omega | exact Nat.le_refl _⟩, ⟨by repeat (first | (with_reducible first | exact HB.out | apply below_alloc | apply pw_below_drewN | apply below_drew1) | exact HB.out)⟩⟩
          · rw [if_neg c9] at H
            have c9b0 : decide (a0 < 1) = false := decide_eq_false c9
            clear c9
            (first | rw [c9b0] | (simp only [i64_w, i32_w]; rw [c9b0]) | skip)
            by_cases c10 : a0 > 6
            · rw [if_pos c10] at H
              have c10b0 : decide (6 < a0) = true := decide_eq_true c10
              clear c10
              have H' := Aside0.mk H
              clear H
              go_wp2
              go_meet
              case rel => exact ⟨_, (true), (by first | rfl | (simp; done) | (simp [*]; done)), H', ⟨by have := HK1.out; first | omega | exact Nat.le_refl _⟩, ⟨by repeat (first | (with_reducible first | exact HB.out | apply below_alloc | apply pw_below_drewN | apply below_drew1) | exact HB.out)⟩⟩
            · rw [if_neg c10] at H
              have c10b0 : decide (6 < a0) = false := decide_eq_false c10
              clear c10
              by_cases c11 : (l1.length : Int) < 1
              · rw [if_pos c11] at H
                have c11b0 : decide ((l1.length : Int) < 1) = true := decide_eq_true c11
                have c11b1 : decide (l1.length < 1) = true := decide_eq_true (by omega)
                clear c11
                have H' := Aside0.mk H
                clear H
                go_wp2
                go_meet
                case rel => exact ⟨_, (true), (by first | rfl | (simp; done) | (simp [*]; done)), H', ⟨by have := HK1.out; first | omega | exact Nat.le_refl _⟩, ⟨by repeat (first | (with_reducible first | exact HB.out | apply below_alloc | apply pw_below_drewN | apply below_drew1) | exact HB.out)⟩⟩
              · rw [if_neg c11] at H
                have c11b0 : decide ((l1.length : Int) < 1) = false := decide_eq_false c11
                have c11b1 : decide (l1.length < 1) = false := decide_eq_false (by omega)
                clear c11
                by_cases c12 : (l1.length : Int) > 8
                · rw [if_pos c12] at H
                  have c12b0 : decide (8 < (l1.length : Int)) = true := decide_eq_true c12
                  have c12b1 : decide (8 < l1.length) = true := decide_eq_true (by omega)
                  clear c12
                  have H' := Aside0.mk H
                  clear H
                  go_wp2
                  go_meet
                  case rel => exact ⟨_, (true), (by first | rfl | (simp; done) | (simp [*]; done)), H', ⟨by have := HK1.out; first | omega | exact Nat.le_refl _⟩, ⟨by repeat (first | (with_reducible first | exact HB.out | apply below_alloc | apply pw_below_drewN | apply below_drew1) | exact HB.out)⟩⟩
                · rw [if_neg c12] at H
                  have c12b0 : decide (8 < (l1.length : Int)) = false := decide_eq_false c12
                  have c12b1 : decide (8 < l1.length) = false := decide_eq_false (by omega)
                  clear c12
                  have H' := Aside0.mk H
                  clear H
                  go_wp2
                  go_meet
                  case rel => exact ⟨_, (decide (x5_1 > 20)), (by first | rfl | (simp; done) | (simp [*]; done)), H', ⟨by have := HK1.out; first | omega | exact Nat.le_refl _⟩, ⟨by repeat (first | (with_reducible first | exact HB.out | apply below_alloc | apply pw_below_drewN | apply below_drew1) | exact HB.out)⟩⟩
        case rest =>
          clear HC8
          try clear c1
          try clear p1
          try clear q1
          try clear hx1
          try clear c2
          try clear p2
          try clear c3
          try clear c3b0
          try clear c4
          try clear c4b0
          try clear c5
          try clear c5b0
          try clear p6
          try clear c9
          try clear c9b0
          try clear c10
          try clear c10b0
          try clear c11
          try clear c11b0
          try clear c11b1
          try clear c12
          try clear c12b0
          try clear c12b1
          try clear hcz7_0
          try clear hcz7_1
          try clear hcz7_2
          try clear hcz7_3
          try clear hfz7_0
          try clear hfz7_1
          try clear hfz7_2
          try clear hfz7_3
          try clear hx142_0
          try clear hx142_1
          try clear hx142_2
          try clear hx142_3
          try clear p142
          try clear p2
          try clear q142
          obtain ⟨kq, x44_7, rfl, HA, HJ7, HB⟩ := hcut
          cases kq with
          | zero => exact absurd HA.out (by simp [codemasonref_ProgCheck.j1])
          | succ kj7 =>
            have H := HA.out
            clear HA
            simp only [codemasonref_ProgCheck.j1] at H
            by_cases c13 : x44_7 = true
            · subst c13
              have H1 : (some 1) = some r := by rw [if_pos rfl] at H; exact H
              clear H
              have H := H1
              clear H1
              obtain rfl := Option.some.inj H
              go_wp2
              go_ret
              exact ⟨by first | rfl | (simp [errW_none, errW_some] <;> rfl) | (simp [*, errW_none, errW_some] <;> rfl), by repeat (first | (with_reducible first | exact HB.out | apply below_alloc | apply pw_below_drewN | apply below_drew1) | exact HB.out)⟩
            · replace c13 := Bool.eq_false_iff.mpr c13
              subst c13
              have H1 : (codemasonref_ProgCheck.l1 kj7 a0 l1 l1 (l1.length : Int) 0) = some r := by rw [if_neg (show ¬ (false = true) by decide)] at H; exact H
              clear H
              have H := H1
              clear H1
              have H' := Aside0.mk H
              clear H
              go_wp2
              go_loopg [47] kj7 (fun kq v47 w' => ∃ (x47_3 : Int), v47 = .int .i64 x47_3 ∧ Aside0 (codemasonref_ProgCheck.l1 kq a0 l1 l1 (l1.length : Int) x47_3 = some r) ∧ Aside0 (kq ≤ kj7) ∧ Aside0 (Below w.heap.size w w'))
              case atStart => exact ⟨(0), (by first | rfl | (simp; done) | (simp [*]; done)), H', ⟨Nat.le_refl _⟩, ⟨by repeat (first | (with_reducible first | exact HB.out | apply below_alloc | apply pw_below_drewN | apply below_drew1) | exact HB.out)⟩⟩
              case round =>
                clear H'
                try clear c1
                try clear p1
                try clear q1
                try clear hx1
                try clear c2
                try clear p2
                try clear c3
                try clear c3b0
                try clear c4
                try clear c4b0
                try clear c5
                try clear c5b0
                try clear p6
                try clear c9
                try clear c9b0
                try clear c10
                try clear c10b0
                try clear c11
                try clear c11b0
                try clear c11b1
                try clear c12
                try clear c12b0
                try clear c12b1
                try clear c13
                try clear hcz7_0
                try clear hcz7_1
                try clear hcz7_2
                try clear hcz7_3
                try clear hfz7_0
                try clear hfz7_1
                try clear hfz7_2
                try clear hfz7_3
                try clear hx142_0
                try clear hx142_1
                try clear hx142_2
                try clear hx142_3
                try clear p1
                try clear p142
                try clear p2
                try clear p6
                try clear q1
                try clear q142
                obtain ⟨x47_3, rfl, HA, HK3, HB⟩ := hrel
                cases gk with
                | zero => exact absurd HA.out (by simp [codemasonref_ProgCheck.l1])
                | succ k3 =>
                  have H := HA.out
                  clear HA
                  simp only [codemasonref_ProgCheck.l1] at H
                  by_cases c14 : x47_3 < (l1.length : Int)
                  · rw [if_pos c14] at H
                    have c14b0 : decide (x47_3 < (l1.length : Int)) = true := decide_eq_true c14
                    clear c14
                    by_cases c15 : 0 ≤ x47_3
                    · rw [if_pos c15] at H
                      have c15b0 : decide (0 ≤ x47_3) = true := decide_eq_true c15
                      clear c15
                      by_cases c16 : x47_3 < (l1.length : Int)
                      · rw [if_pos c16] at H
                        have c16b0 : decide (x47_3 < (l1.length : Int)) = true := decide_eq_true c16
                        clear c16
                        have H' := Aside0.mk H
                        clear H
                        have p144 : 0 ≤ (x47_3 : Int) := of_decide_eq_true (by first | (with_reducible assumption) | assumption)
                        have q144 : x47_3 < (l1.length : Int) := of_decide_eq_true (by first | (with_reducible assumption) | assumption)
                        obtain ⟨ad144, A144_0, c144_0, e144, hx144_0, hx144_1, hx144_2, hx144_3, hl144_0, hi144_0⟩ := at_T79 HR1.out x47_3 p144 q144
                        cases e144
                        replace hx144_0 := (HB.out.cell (World.block_lt_of_cell? w _ hx144_0)).trans hx144_0
                        replace hx144_1 := (HB.out.cell (World.block_lt_of_cell? w _ hx144_1)).trans hx144_1
                        replace hx144_2 := (HB.out.cell (World.block_lt_of_cell? w _ hx144_2)).trans hx144_2
                        replace hx144_3 := (HB.out.cell (World.block_lt_of_cell? w _ hx144_3)).trans hx144_3
                        have HR144_0 := Aside0.mk hi144_0
                        have HC144_0 := Aside0.mk hl144_0
                        clear hi144_0 hl144_0
                        replace p144 := eq_true p144
                        replace q144 := eq_true q144
                        go_wp2_with (first | ((with_reducible refine gate_dst (N := 9) rfl ?_); (try (refine gate_guard (by rfl) ?_; dsimp only)); refine box_event ?hg (N := 9) ?hd (cs := #[.slice none 0 0, .int .i64 0, .int .i64 0, .int .i64 0]) (t := 79) ?hr ?_; (case hd => rfl); (case hg => rfl); (case hr => first | (go_simp; done) | (go_simp; rfl)); intro gb145 hg w17 hbox hb; have n0_ := Aside0.mk (below_step (by repeat (first | (with_reducible first | exact HB.out | apply below_alloc | apply pw_below_drewN | apply below_drew1) | exact HB.out)) hb); have n1_ := Aside0.mk (hbox); have n2_ := Aside0.mk ((by rw [hg]; exact (below_size (by repeat (first | (with_reducible first | exact HB.out | apply below_alloc | apply pw_below_drewN | apply below_drew1) | exact HB.out))) : w.heap.size ≤ gb145)); have n3_ := Aside0.mk ((by rw [hg]; exact (below_size (by repeat (first | (with_reducible first | exact HB.out | apply below_alloc | apply pw_below_drewN | apply below_drew1) | exact HB.out))) : w.heap.size ≤ gb145)); clear HB; have HB := n0_; have BK145 := n1_; have GW145 := n2_; have GE145 := n3_; clear n0_ n1_ n2_ n3_; clear hb hbox hg; have hcz18_0 : w17.cell? ⟨gb145, 0, none⟩ = some (.slice none 0 0) := (blk_cell BK145.out 0).trans rfl; have hcz18_1 : w17.cell? ⟨gb145, 1, none⟩ = some (.int .i64 0) := (blk_cell BK145.out 1).trans rfl; have hcz18_2 : w17.cell? ⟨gb145, 2, none⟩ = some (.int .i64 0) := (blk_cell BK145.out 2).trans rfl; have hcz18_3 : w17.cell? ⟨gb145, 3, none⟩ = some (.int .i64 0) := (blk_cell BK145.out 3).trans rfl; have hfz18_0 := blk_frozen BK145.out 0; have hfz18_1 := blk_frozen BK145.out 1; have hfz18_2 := blk_frozen BK145.out 2; have hfz18_3 := blk_frozen BK145.out 3))
                        go_loopg [54] k3 (fun kq v54 w' => ∃ (x54_4 : Int), v54 = .int .i64 x54_4 ∧ Aside0 (codemasonref_ProgCheck.l2 kq a0 l1 l1 (l1.length : Int) x47_3 ((rd_T79 l1 x47_3).f0) (((rd_T79 l1 x47_3).f0).length : Int) x54_4 ((rd_T79 l1 x47_3).f0) ((rd_T79 l1 x47_3).f1) ((rd_T79 l1 x47_3).f2) ((rd_T79 l1 x47_3).f3) = some r) ∧ Aside0 (kq ≤ k3) ∧ Aside0 (w'.heap[gb145]? = some (.cells #[(.slice A144_0 ((rd_T79 l1 x47_3).f0).length c144_0), .int .i64 ((rd_T79 l1 x47_3).f1), .int .i64 ((rd_T79 l1 x47_3).f2), .int .i64 ((rd_T79 l1 x47_3).f3)] 79 (0, 0))) ∧ Aside0 (Below w.heap.size w w'))
                        case atStart => exact ⟨(0), (by first | rfl | (simp; done) | (simp [*]; done)), H', ⟨Nat.le_refl _⟩, ⟨by (with_reducible repeat (first | refine blk_drewN ?_ _ | refine blk_drew ?_ | refine blk_alloc ?_ _)); refine blk_put (cs := #[.slice A144_0 ((rd_T79 l1 x47_3).f0).length c144_0, .int .i64 ((rd_T79 l1 x47_3).f1), .int .i64 ((rd_T79 l1 x47_3).f2), .int .i64 0]) ?_ 3 _ rfl; (with_reducible repeat (first | refine blk_drewN ?_ _ | refine blk_drew ?_ | refine blk_alloc ?_ _)); refine blk_put (cs := #[.slice A144_0 ((rd_T79 l1 x47_3).f0).length c144_0, .int .i64 ((rd_T79 l1 x47_3).f1), .int .i64 0, .int .i64 0]) ?_ 2 _ rfl; (with_reducible repeat (first | refine blk_drewN ?_ _ | refine blk_drew ?_ | refine blk_alloc ?_ _)); refine blk_put (cs := #[.slice A144_0 ((rd_T79 l1 x47_3).f0).length c144_0, .int .i64 0, .int .i64 0, .int .i64 0]) ?_ 1 _ rfl; (with_reducible repeat (first | refine blk_drewN ?_ _ | refine blk_drew ?_ | refine blk_alloc ?_ _)); refine blk_put (cs := #[.slice none 0 0, .int .i64 0, .int .i64 0, .int .i64 0]) ?_ 0 _ rfl; (with_reducible repeat (first | refine blk_drewN ?_ _ | refine blk_drew ?_ | refine blk_alloc ?_ _)); exact BK145.out⟩, ⟨by repeat (first | (with_reducible first | exact HB.out | apply below_alloc | apply pw_below_drewN | apply below_drew1 | refine below_set ?_ GE145.out) | exact HB.out)⟩⟩
                        case round =>
                          clear H'
                          try clear c1
                          try clear p1
                          try clear q1
                          try clear hx1
                          try clear c2
                          try clear p2
                          try clear c3
                          try clear c3b0
                          try clear c4
                          try clear c4b0
                          try clear c5
                          try clear c5b0
                          try clear p6
                          try clear c9
                          try clear c9b0
                          try clear c10
                          try clear c10b0
                          try clear c11
                          try clear c11b0
                          try clear c11b1
                          try clear c12
                          try clear c12b0
                          try clear c12b1
                          try clear c13
                          try clear c14
                          try clear c14b0
                          try clear p14
                          try clear q14
                          try clear hx14
                          try clear c15
                          try clear c15b0
                          try clear c16
                          try clear c16b0
                          try clear hcz18_0
                          try clear hcz18_1
                          try clear hcz18_2
                          try clear hcz18_3
                          try clear hcz7_0
                          try clear hcz7_1
                          try clear hcz7_2
                          try clear hcz7_3
                          try clear hfz18_0
                          try clear hfz18_1
                          try clear hfz18_2
                          try clear hfz18_3
                          try clear hfz7_0
                          try clear hfz7_1
                          try clear hfz7_2
                          try clear hfz7_3
                          try clear hx142_0
                          try clear hx142_1
                          try clear hx142_2
                          try clear hx142_3
                          try clear hx144_0
                          try clear hx144_1
                          try clear hx144_2
                          try clear hx144_3
                          try clear p1
                          try clear p142
                          try clear p144
                          try clear p2
                          try clear p6
                          try clear q1
                          try clear q142
                          try clear q144
                          obtain ⟨x54_4, rfl, HA, HK4, BK145, HB⟩ := hrel
                          cases gk with
                          | zero => exact absurd HA.out (by simp [codemasonref_ProgCheck.l2])
                          | succ k4 =>
                            have H := HA.out
                            clear HA
                            simp only [codemasonref_ProgCheck.l2] at H
                            by_cases c19 : x54_4 < (((rd_T79 l1 x47_3).f0).length : Int)
                            · rw [if_pos c19] at H
                              have c19b0 : decide (x54_4 < (((rd_T79 l1 x47_3).f0).length : Int)) = true := decide_eq_true c19
                              clear c19
                              by_cases c20 : 0 ≤ x54_4
                              · rw [if_pos c20] at H
                                have c20b0 : decide (0 ≤ x54_4) = true := decide_eq_true c20
                                clear c20
                                by_cases c21 : x54_4 < (((rd_T79 l1 x47_3).f0).length : Int)
                                · rw [if_pos c21] at H
                                  have c21b0 : decide (x54_4 < (((rd_T79 l1 x47_3).f0).length : Int)) = true := decide_eq_true c21
                                  clear c21
                                  replace H := Option.bind_eq_some_iff.mp H
                                  obtain ⟨t148, A220, H⟩ := H
                                  replace H : (if t148 = 0 then (codemasonref_ProgCheck.l2 k4 a0 l1 l1 (l1.length : Int) x47_3 ((rd_T79 l1 x47_3).f0) (((rd_T79 l1 x47_3).f0).length : Int) (wrap64 (x54_4 + 1)) ((rd_T79 l1 x47_3).f0) ((rd_T79 l1 x47_3).f1) ((rd_T79 l1 x47_3).f2) ((rd_T79 l1 x47_3).f3)) else (some t148)) = some r := H
                                  have A22 := Aside0.mk A220
                                  clear A220
                                  by_cases c23 : t148 = 0
                                  · rw [if_pos c23] at H
                                    have c23b0 : (t148 == 0) = true := beq_iff_eq.mpr c23
                                    have c23b1 : (t148 != 0) = false := bne_eq_false_iff_eq.mpr c23
                                    clear c23
                                    have H' := Aside0.mk H
                                    clear H
                                    have p146 : 0 ≤ (x54_4 : Int) := of_decide_eq_true (by first | (with_reducible assumption) | assumption)
                                    have q146 : x54_4 < (((rd_T79 l1 x47_3).f0).length : Int) := of_decide_eq_true (by first | (with_reducible assumption) | assumption)
                                    obtain ⟨ad146, e146, hx146_0, hx146_1, hx146_2, hx146_3, hx146_4⟩ := at_T111 HR144_0.out x54_4 p146 q146
                                    cases e146
                                    replace hx146_0 := (HB.out.cell (World.block_lt_of_cell? w _ hx146_0)).trans hx146_0
                                    replace hx146_1 := (HB.out.cell (World.block_lt_of_cell? w _ hx146_1)).trans hx146_1
                                    replace hx146_2 := (HB.out.cell (World.block_lt_of_cell? w _ hx146_2)).trans hx146_2
                                    replace hx146_3 := (HB.out.cell (World.block_lt_of_cell? w _ hx146_3)).trans hx146_3
                                    replace hx146_4 := (HB.out.cell (World.block_lt_of_cell? w _ hx146_4)).trans hx146_4
                                    replace p146 := eq_true p146
                                    replace q146 := eq_true q146
                                    go_wp2_with (first | ((with_reducible refine gate_dst (N := 11) rfl ?_); (try (refine gate_guard (by rfl) ?_; dsimp only)); refine box_event ?hg (N := 11) ?hd (cs := #[.int .i64 0, .int .i64 0, .int .i64 0, .int .i64 0, .int .i64 0]) (t := 111) ?hr ?_; (case hd => rfl); (case hg => rfl); (case hr => first | (go_simp; done) | (go_simp; rfl)); intro gb147 hg w24 hbox hb; have n0_ := Aside0.mk (blk_below (g := gb145) (o := .cells #[.slice (some ad146) ((rd_T79 l1 x47_3).f0).length c144_0, .int .i64 ((rd_T79 l1 x47_3).f1), .int .i64 ((rd_T79 l1 x47_3).f2), .int .i64 ((rd_T79 l1 x47_3).f3)] 79 (0, 0)) (by (with_reducible repeat (first | refine blk_drewN ?_ _ | refine blk_drew ?_ | refine blk_alloc ?_ _)); exact BK145.out) hb); have n1_ := Aside0.mk (below_step (by repeat (first | (with_reducible first | exact HB.out | apply below_alloc | apply pw_below_drewN | apply below_drew1 | refine below_set ?_ GE145.out) | exact HB.out)) hb); have n2_ := Aside0.mk (hbox); have n3_ := Aside0.mk ((by rw [hg]; exact (below_size (by repeat (first | (with_reducible first | exact HB.out | apply below_alloc | apply pw_below_drewN | apply below_drew1 | refine below_set ?_ GE145.out) | exact HB.out))) : w.heap.size ≤ gb147)); have n4_ := Aside0.mk ((by rw [hg]; exact (below_size (by repeat (first | (with_reducible first | exact HB.out | apply below_alloc | apply pw_below_drewN | apply below_drew1 | refine below_set ?_ GE145.out) | exact HB.out))) : w.heap.size ≤ gb147)); have n5_ := Aside0.mk ((by rw [hg]; exact Nat.ne_of_lt (blk_lt (g := gb145) (o := .cells #[.slice (some ad146) ((rd_T79 l1 x47_3).f0).length c144_0, .int .i64 ((rd_T79 l1 x47_3).f1), .int .i64 ((rd_T79 l1 x47_3).f2), .int .i64 ((rd_T79 l1 x47_3).f3)] 79 (0, 0)) (by (with_reducible repeat (first | refine blk_drewN ?_ _ | refine blk_drew ?_ | refine blk_alloc ?_ _)); exact BK145.out)) : gb145 ≠ gb147)); have n6_ := Aside0.mk ((by rw [hg]; exact Nat.ne_of_gt (blk_lt (g := gb145) (o := .cells #[.slice (some ad146) ((rd_T79 l1 x47_3).f0).length c144_0, .int .i64 ((rd_T79 l1 x47_3).f1), .int .i64 ((rd_T79 l1 x47_3).f2), .int .i64 ((rd_T79 l1 x47_3).f3)] 79 (0, 0)) (by (with_reducible repeat (first | refine blk_drewN ?_ _ | refine blk_drew ?_ | refine blk_alloc ?_ _)); exact BK145.out)) : gb147 ≠ gb145)); clear BK145; clear HB; have BK145 := n0_; have HB := n1_; have BK147 := n2_; have GW147 := n3_; have GE147 := n4_; have NB145_147 := n5_; have NB147_145 := n6_; clear n0_ n1_ n2_ n3_ n4_ n5_ n6_; clear hb hbox hg; have hnb25 := NB147_145.out; have hnc25 := NB145_147.out; have hcz26_0 : w24.cell? ⟨gb147, 0, none⟩ = some (.int .i64 0) := (blk_cell BK147.out 0).trans rfl; have hcz26_1 : w24.cell? ⟨gb147, 1, none⟩ = some (.int .i64 0) := (blk_cell BK147.out 1).trans rfl; have hcz26_2 : w24.cell? ⟨gb147, 2, none⟩ = some (.int .i64 0) := (blk_cell BK147.out 2).trans rfl; have hcz26_3 : w24.cell? ⟨gb147, 3, none⟩ = some (.int .i64 0) := (blk_cell BK147.out 3).trans rfl; have hcz26_4 : w24.cell? ⟨gb147, 4, none⟩ = some (.int .i64 0) := (blk_cell BK147.out 4).trans rfl; have hfz26_0 := blk_frozen BK147.out 0; have hfz26_1 := blk_frozen BK147.out 1; have hfz26_2 := blk_frozen BK147.out 2; have hfz26_3 := blk_frozen BK147.out 3; have hfz26_4 := blk_frozen BK147.out 4) | ((with_reducible refine gate_callee (f := 71) rfl ?_); refine goesL_ (some 61) rfl rfl Try.func71 (by kernel_rfl) rfl #[.int .i64 a0, .int .i64 a0, .agg #[.int .i64 ((rd_T111 ((rd_T79 l1 x47_3).f0) x54_4).f0), .int .i64 ((rd_T111 ((rd_T79 l1 x47_3).f0) x54_4).f1), .int .i64 ((rd_T111 ((rd_T79 l1 x47_3).f0) x54_4).f2), .int .i64 ((rd_T111 ((rd_T79 l1 x47_3).f0) x54_4).f3), .int .i64 ((rd_T111 ((rd_T79 l1 x47_3).f0) x54_4).f4)]] rfl (by (try simp only [List.map_toArray, List.map_cons, List.map_nil]); first | done | rfl | (simp only [List.length_drop, List.length_take]; rfl)) ?_; (with_reducible refine (codemasonref_StepCheck.calls k4 a0 a0 ((rd_T111 ((rd_T79 l1 x47_3).f0) x54_4).f0) ((rd_T111 ((rd_T79 l1 x47_3).f0) x54_4).f1) ((rd_T111 ((rd_T79 l1 x47_3).f0) x54_4).f2) ((rd_T111 ((rd_T79 l1 x47_3).f0) x54_4).f3) ((rd_T111 ((rd_T79 l1 x47_3).f0) x54_4).f4) t148 _ A22.out).mono ?_); rintro e w27 ⟨rfl, hb⟩; refine ⟨_, rfl, ?_⟩; have n0_ := Aside0.mk (blk_below (g := gb145) (o := .cells #[.slice (some ad146) ((rd_T79 l1 x47_3).f0).length c144_0, .int .i64 ((rd_T79 l1 x47_3).f1), .int .i64 ((rd_T79 l1 x47_3).f2), .int .i64 ((rd_T79 l1 x47_3).f3)] 79 (0, 0)) (by (with_reducible repeat (first | refine blk_drewN ?_ _ | refine blk_drew ?_ | refine blk_alloc ?_ _)); refine blk_far ?_ NB145_147.out _; (with_reducible repeat (first | refine blk_drewN ?_ _ | refine blk_drew ?_ | refine blk_alloc ?_ _)); refine blk_far ?_ NB145_147.out _; (with_reducible repeat (first | refine blk_drewN ?_ _ | refine blk_drew ?_ | refine blk_alloc ?_ _)); refine blk_far ?_ NB145_147.out _; (with_reducible repeat (first | refine blk_drewN ?_ _ | refine blk_drew ?_ | refine blk_alloc ?_ _)); refine blk_far ?_ NB145_147.out _; (with_reducible repeat (first | refine blk_drewN ?_ _ | refine blk_drew ?_ | refine blk_alloc ?_ _)); refine blk_far ?_ NB145_147.out _; (with_reducible repeat (first | refine blk_drewN ?_ _ | refine blk_drew ?_ | refine blk_alloc ?_ _)); exact BK145.out) hb); have n1_ := Aside0.mk (blk_below (g := gb147) (o := .cells #[.int .i64 ((rd_T111 ((rd_T79 l1 x47_3).f0) x54_4).f0), .int .i64 ((rd_T111 ((rd_T79 l1 x47_3).f0) x54_4).f1), .int .i64 ((rd_T111 ((rd_T79 l1 x47_3).f0) x54_4).f2), .int .i64 ((rd_T111 ((rd_T79 l1 x47_3).f0) x54_4).f3), .int .i64 ((rd_T111 ((rd_T79 l1 x47_3).f0) x54_4).f4)] 111 (0, 0)) (by (with_reducible repeat (first | refine blk_drewN ?_ _ | refine blk_drew ?_ | refine blk_alloc ?_ _)); refine blk_put (cs := #[.int .i64 ((rd_T111 ((rd_T79 l1 x47_3).f0) x54_4).f0), .int .i64 ((rd_T111 ((rd_T79 l1 x47_3).f0) x54_4).f1), .int .i64 ((rd_T111 ((rd_T79 l1 x47_3).f0) x54_4).f2), .int .i64 ((rd_T111 ((rd_T79 l1 x47_3).f0) x54_4).f3), .int .i64 0]) ?_ 4 _ rfl; (with_reducible repeat (first | refine blk_drewN ?_ _ | refine blk_drew ?_ | refine blk_alloc ?_ _)); refine blk_put (cs := #[.int .i64 ((rd_T111 ((rd_T79 l1 x47_3).f0) x54_4).f0), .int .i64 ((rd_T111 ((rd_T79 l1 x47_3).f0) x54_4).f1), .int .i64 ((rd_T111 ((rd_T79 l1 x47_3).f0) x54_4).f2), .int .i64 0, .int .i64 0]) ?_ 3 _ rfl; (with_reducible repeat (first | refine blk_drewN ?_ _ | refine blk_drew ?_ | refine blk_alloc ?_ _)); refine blk_put (cs := #[.int .i64 ((rd_T111 ((rd_T79 l1 x47_3).f0) x54_4).f0), .int .i64 ((rd_T111 ((rd_T79 l1 x47_3).f0) x54_4).f1), .int .i64 0, .int .i64 0, .int .i64 0]) ?_ 2 _ rfl; (with_reducible repeat (first | refine blk_drewN ?_ _ | refine blk_drew ?_ | refine blk_alloc ?_ _)); refine blk_put (cs := #[.int .i64 ((rd_T111 ((rd_T79 l1 x47_3).f0) x54_4).f0), .int .i64 0, .int .i64 0, .int .i64 0, .int .i64 0]) ?_ 1 _ rfl; (with_reducible repeat (first | refine blk_drewN ?_ _ | refine blk_drew ?_ | refine blk_alloc ?_ _)); refine blk_put (cs := #[.int .i64 0, .int .i64 0, .int .i64 0, .int .i64 0, .int .i64 0]) ?_ 0 _ rfl; (with_reducible repeat (first | refine blk_drewN ?_ _ | refine blk_drew ?_ | refine blk_alloc ?_ _)); exact BK147.out) hb); have n2_ := Aside0.mk (below_step (by repeat (first | (with_reducible first | exact HB.out | apply below_alloc | apply pw_below_drewN | apply below_drew1 | refine below_set ?_ GE145.out | refine below_set ?_ GE147.out) | exact HB.out)) hb); clear BK145; clear BK147; clear HB; have BK145 := n0_; have BK147 := n1_; have HB := n2_; clear n0_ n1_ n2_; (try clear hb); (try clear hb2); (try clear hk); (try clear hi)))
                                    go_roundg k4
                                    case measure => have := HK1.out; have := HJ7.out; have := HK3.out; have := HK4.out; omega
                                    case rel => exact ⟨(wrap64 (x54_4 + 1)), (by first | rfl | (simp; done) | (simp [*]; done)), H', ⟨by have := HK1.out; have := HJ7.out; have := HK3.out; have := HK4.out; omega⟩, ⟨by (with_reducible repeat (first | refine blk_drewN ?_ _ | refine blk_drew ?_ | refine blk_alloc ?_ _)); exact BK145.out⟩, ⟨by repeat (first | (with_reducible first | exact HB.out | apply below_alloc | apply pw_below_drewN | apply below_drew1 | refine below_set ?_ GE145.out | refine below_set ?_ GE147.out) | exact HB.out)⟩⟩
                                  · rw [if_neg c23] at H
                                    have c23b0 : (t148 == 0) = false := beq_eq_false_iff_ne.mpr c23
                                    have c23b1 : (t148 != 0) = true := bne_iff_ne.mpr c23
                                    obtain rfl := Option.some.inj H
                                    have p146 : 0 ≤ (x54_4 : Int) := of_decide_eq_true (by first | (with_reducible assumption) | assumption)
                                    have q146 : x54_4 < (((rd_T79 l1 x47_3).f0).length : Int) := of_decide_eq_true (by first | (with_reducible assumption) | assumption)
                                    obtain ⟨ad146, e146, hx146_0, hx146_1, hx146_2, hx146_3, hx146_4⟩ := at_T111 HR144_0.out x54_4 p146 q146
                                    cases e146
                                    replace hx146_0 := (HB.out.cell (World.block_lt_of_cell? w _ hx146_0)).trans hx146_0
                                    replace hx146_1 := (HB.out.cell (World.block_lt_of_cell? w _ hx146_1)).trans hx146_1
                                    replace hx146_2 := (HB.out.cell (World.block_lt_of_cell? w _ hx146_2)).trans hx146_2
                                    replace hx146_3 := (HB.out.cell (World.block_lt_of_cell? w _ hx146_3)).trans hx146_3
                                    replace hx146_4 := (HB.out.cell (World.block_lt_of_cell? w _ hx146_4)).trans hx146_4
                                    replace p146 := eq_true p146
                                    replace q146 := eq_true q146
                                    go_wp2_with (first | ((with_reducible refine gate_dst (N := 11) rfl ?_); (try (refine gate_guard (by rfl) ?_; dsimp only)); refine box_event ?hg (N := 11) ?hd (cs := #[.int .i64 0, .int .i64 0, .int .i64 0, .int .i64 0, .int .i64 0]) (t := 111) ?hr ?_; (case hd => rfl); (case hg => rfl); (case hr => first | (go_simp; done) | (go_simp; rfl)); intro gb147 hg w28 hbox hb; have n0_ := Aside0.mk (blk_below (g := gb145) (o := .cells #[.slice (some ad146) ((rd_T79 l1 x47_3).f0).length c144_0, .int .i64 ((rd_T79 l1 x47_3).f1), .int .i64 ((rd_T79 l1 x47_3).f2), .int .i64 ((rd_T79 l1 x47_3).f3)] 79 (0, 0)) (by (with_reducible repeat (first | refine blk_drewN ?_ _ | refine blk_drew ?_ | refine blk_alloc ?_ _)); exact BK145.out) hb); have n1_ := Aside0.mk (below_step (by repeat (first | (with_reducible first | exact HB.out | apply below_alloc | apply pw_below_drewN | apply below_drew1 | refine below_set ?_ GE145.out) | exact HB.out)) hb); have n2_ := Aside0.mk (hbox); have n3_ := Aside0.mk ((by rw [hg]; exact (below_size (by repeat (first | (with_reducible first | exact HB.out | apply below_alloc | apply pw_below_drewN | apply below_drew1 | refine below_set ?_ GE145.out) | exact HB.out))) : w.heap.size ≤ gb147)); have n4_ := Aside0.mk ((by rw [hg]; exact (below_size (by repeat (first | (with_reducible first | exact HB.out | apply below_alloc | apply pw_below_drewN | apply below_drew1 | refine below_set ?_ GE145.out) | exact HB.out))) : w.heap.size ≤ gb147)); have n5_ := Aside0.mk ((by rw [hg]; exact Nat.ne_of_lt (blk_lt (g := gb145) (o := .cells #[.slice (some ad146) ((rd_T79 l1 x47_3).f0).length c144_0, .int .i64 ((rd_T79 l1 x47_3).f1), .int .i64 ((rd_T79 l1 x47_3).f2), .int .i64 ((rd_T79 l1 x47_3).f3)] 79 (0, 0)) (by (with_reducible repeat (first | refine blk_drewN ?_ _ | refine blk_drew ?_ | refine blk_alloc ?_ _)); exact BK145.out)) : gb145 ≠ gb147)); have n6_ := Aside0.mk ((by rw [hg]; exact Nat.ne_of_gt (blk_lt (g := gb145) (o := .cells #[.slice (some ad146) ((rd_T79 l1 x47_3).f0).length c144_0, .int .i64 ((rd_T79 l1 x47_3).f1), .int .i64 ((rd_T79 l1 x47_3).f2), .int .i64 ((rd_T79 l1 x47_3).f3)] 79 (0, 0)) (by (with_reducible repeat (first | refine blk_drewN ?_ _ | refine blk_drew ?_ | refine blk_alloc ?_ _)); exact BK145.out)) : gb147 ≠ gb145)); clear BK145; clear HB; have BK145 := n0_; have HB := n1_; have BK147 := n2_; have GW147 := n3_; have GE147 := n4_; have NB145_147 := n5_; have NB147_145 := n6_; clear n0_ n1_ n2_ n3_ n4_ n5_ n6_; clear hb hbox hg; have hnb29 := NB147_145.out; have hnc29 := NB145_147.out; have hcz30_0 : w28.cell? ⟨gb147, 0, none⟩ = some (.int .i64 0) := (blk_cell BK147.out 0).trans rfl; have hcz30_1 : w28.cell? ⟨gb147, 1, none⟩ = some (.int .i64 0) := (blk_cell BK147.out 1).trans rfl; have hcz30_2 : w28.cell? ⟨gb147, 2, none⟩ = some (.int .i64 0) := (blk_cell BK147.out 2).trans rfl; have hcz30_3 : w28.cell? ⟨gb147, 3, none⟩ = some (.int .i64 0) := (blk_cell BK147.out 3).trans rfl; have hcz30_4 : w28.cell? ⟨gb147, 4, none⟩ = some (.int .i64 0) := (blk_cell BK147.out 4).trans rfl; have hfz30_0 := blk_frozen BK147.out 0; have hfz30_1 := blk_frozen BK147.out 1; have hfz30_2 := blk_frozen BK147.out 2; have hfz30_3 := blk_frozen BK147.out 3; have hfz30_4 := blk_frozen BK147.out 4) | ((with_reducible refine gate_callee (f := 71) rfl ?_); refine goesL_ (some 61) rfl rfl Try.func71 (by kernel_rfl) rfl #[.int .i64 a0, .int .i64 a0, .agg #[.int .i64 ((rd_T111 ((rd_T79 l1 x47_3).f0) x54_4).f0), .int .i64 ((rd_T111 ((rd_T79 l1 x47_3).f0) x54_4).f1), .int .i64 ((rd_T111 ((rd_T79 l1 x47_3).f0) x54_4).f2), .int .i64 ((rd_T111 ((rd_T79 l1 x47_3).f0) x54_4).f3), .int .i64 ((rd_T111 ((rd_T79 l1 x47_3).f0) x54_4).f4)]] rfl (by (try simp only [List.map_toArray, List.map_cons, List.map_nil]); first | done | rfl | (simp only [List.length_drop, List.length_take]; rfl)) ?_; (with_reducible refine (codemasonref_StepCheck.calls k4 a0 a0 ((rd_T111 ((rd_T79 l1 x47_3).f0) x54_4).f0) ((rd_T111 ((rd_T79 l1 x47_3).f0) x54_4).f1) ((rd_T111 ((rd_T79 l1 x47_3).f0) x54_4).f2) ((rd_T111 ((rd_T79 l1 x47_3).f0) x54_4).f3) ((rd_T111 ((rd_T79 l1 x47_3).f0) x54_4).f4) t148 _ A22.out).mono ?_); rintro e w31 ⟨rfl, hb⟩; refine ⟨_, rfl, ?_⟩; have n0_ := Aside0.mk (blk_below (g := gb145) (o := .cells #[.slice (some ad146) ((rd_T79 l1 x47_3).f0).length c144_0, .int .i64 ((rd_T79 l1 x47_3).f1), .int .i64 ((rd_T79 l1 x47_3).f2), .int .i64 ((rd_T79 l1 x47_3).f3)] 79 (0, 0)) (by (with_reducible repeat (first | refine blk_drewN ?_ _ | refine blk_drew ?_ | refine blk_alloc ?_ _)); refine blk_far ?_ NB145_147.out _; (with_reducible repeat (first | refine blk_drewN ?_ _ | refine blk_drew ?_ | refine blk_alloc ?_ _)); refine blk_far ?_ NB145_147.out _; (with_reducible repeat (first | refine blk_drewN ?_ _ | refine blk_drew ?_ | refine blk_alloc ?_ _)); refine blk_far ?_ NB145_147.out _; (with_reducible repeat (first | refine blk_drewN ?_ _ | refine blk_drew ?_ | refine blk_alloc ?_ _)); refine blk_far ?_ NB145_147.out _; (with_reducible repeat (first | refine blk_drewN ?_ _ | refine blk_drew ?_ | refine blk_alloc ?_ _)); refine blk_far ?_ NB145_147.out _; (with_reducible repeat (first | refine blk_drewN ?_ _ | refine blk_drew ?_ | refine blk_alloc ?_ _)); exact BK145.out) hb); have n1_ := Aside0.mk (blk_below (g := gb147) (o := .cells #[.int .i64 ((rd_T111 ((rd_T79 l1 x47_3).f0) x54_4).f0), .int .i64 ((rd_T111 ((rd_T79 l1 x47_3).f0) x54_4).f1), .int .i64 ((rd_T111 ((rd_T79 l1 x47_3).f0) x54_4).f2), .int .i64 ((rd_T111 ((rd_T79 l1 x47_3).f0) x54_4).f3), .int .i64 ((rd_T111 ((rd_T79 l1 x47_3).f0) x54_4).f4)] 111 (0, 0)) (by (with_reducible repeat (first | refine blk_drewN ?_ _ | refine blk_drew ?_ | refine blk_alloc ?_ _)); refine blk_put (cs := #[.int .i64 ((rd_T111 ((rd_T79 l1 x47_3).f0) x54_4).f0), .int .i64 ((rd_T111 ((rd_T79 l1 x47_3).f0) x54_4).f1), .int .i64 ((rd_T111 ((rd_T79 l1 x47_3).f0) x54_4).f2), .int .i64 ((rd_T111 ((rd_T79 l1 x47_3).f0) x54_4).f3), .int .i64 0]) ?_ 4 _ rfl; (with_reducible repeat (first | refine blk_drewN ?_ _ | refine blk_drew ?_ | refine blk_alloc ?_ _)); refine blk_put (cs := #[.int .i64 ((rd_T111 ((rd_T79 l1 x47_3).f0) x54_4).f0), .int .i64 ((rd_T111 ((rd_T79 l1 x47_3).f0) x54_4).f1), .int .i64 ((rd_T111 ((rd_T79 l1 x47_3).f0) x54_4).f2), .int .i64 0, .int .i64 0]) ?_ 3 _ rfl; (with_reducible repeat (first | refine blk_drewN ?_ _ | refine blk_drew ?_ | refine blk_alloc ?_ _)); refine blk_put (cs := #[.int .i64 ((rd_T111 ((rd_T79 l1 x47_3).f0) x54_4).f0), .int .i64 ((rd_T111 ((rd_T79 l1 x47_3).f0) x54_4).f1), .int .i64 0, .int .i64 0, .int .i64 0]) ?_ 2 _ rfl; (with_reducible repeat (first | refine blk_drewN ?_ _ | refine blk_drew ?_ | refine blk_alloc ?_ _)); refine blk_put (cs := #[.int .i64 ((rd_T111 ((rd_T79 l1 x47_3).f0) x54_4).f0), .int .i64 0, .int .i64 0, .int .i64 0, .int .i64 0]) ?_ 1 _ rfl; (with_reducible repeat (first | refine blk_drewN ?_ _ | refine blk_drew ?_ | refine blk_alloc ?_ _)); refine blk_put (cs := #[.int .i64 0, .int .i64 0, .int .i64 0, .int .i64 0, .int .i64 0]) ?_ 0 _ rfl; (with_reducible repeat (first | refine blk_drewN ?_ _ | refine blk_drew ?_ | refine blk_alloc ?_ _)); exact BK147.out) hb); have n2_ := Aside0.mk (below_step (by repeat (first | (with_reducible first | exact HB.out | apply below_alloc | apply pw_below_drewN | apply below_drew1 | refine below_set ?_ GE145.out | refine below_set ?_ GE147.out) | exact HB.out)) hb); clear BK145; clear BK147; clear HB; have BK145 := n0_; have BK147 := n1_; have HB := n2_; clear n0_ n1_ n2_; (try clear hb); (try clear hb2); (try clear hk); (try clear hi)))
                                    go_ret
                                    exact ⟨by first | rfl | (simp [errW_none, errW_some] <;> rfl) | (simp [*, errW_none, errW_some] <;> rfl), by repeat (first | (with_reducible first | exact HB.out | apply below_alloc | apply pw_below_drewN | apply below_drew1 | refine below_set ?_ GE145.out | refine below_set ?_ GE147.out) | exact HB.out)⟩
                                · rw [if_neg c21] at H
                                  exact absurd H (by simp)
                              · rw [if_neg c20] at H
                                exact absurd H (by simp)
                            · rw [if_neg c19] at H
                              have c19b0 : decide (x54_4 < (((rd_T79 l1 x47_3).f0).length : Int)) = false := decide_eq_false c19
                              clear c19
                              have HC32 := Aside0.mk H
                              clear H
                              go_upto_region 19 with (fail)
                              go_cut [76] (fun v76 wc => ∃ (kq : Nat) (x76_31 : Bool), v76 = .bool x76_31 ∧ Aside0 (codemasonref_ProgCheck.j4 kq a0 l1 l1 (l1.length : Int) x47_3 x76_31 ((rd_T79 l1 x47_3).f0) ((rd_T79 l1 x47_3).f1) ((rd_T79 l1 x47_3).f2) ((rd_T79 l1 x47_3).f3) = some r) ∧ Aside0 (kq ≤ k4) ∧ Aside0 (wc.heap[gb145]? = some (.cells #[(.slice A144_0 ((rd_T79 l1 x47_3).f0).length c144_0), .int .i64 ((rd_T79 l1 x47_3).f1), .int .i64 ((rd_T79 l1 x47_3).f2), .int .i64 ((rd_T79 l1 x47_3).f3)] 79 (0, 0))) ∧ Aside0 (Below w.heap.size w wc))
                              case first =>
                                have H := HC32.out
                                clear HC32
                                by_cases c33 : ((rd_T79 l1 x47_3).f1) = (-1)
                                · rw [if_pos c33] at H
                                  have c33b0 : (((rd_T79 l1 x47_3).f1) == (-1)) = true := beq_iff_eq.mpr c33
                                  have c33b1 : (((rd_T79 l1 x47_3).f1) != (-1)) = false := bne_eq_false_iff_eq.mpr c33
                                  clear c33
                                  (first | rw [c33b0] | (simp only [i64_w, i32_w]; rw [c33b0]) | skip)
                                  have H' := Aside0.mk H
                                  clear H
                                  have hcz34_0 : wr.cell? ⟨gb145, 0, none⟩ = some (.slice A144_0 ((rd_T79 l1 x47_3).f0).length c144_0) := (blk_cell BK145.out 0).trans rfl
                                  have hcz34_1 : wr.cell? ⟨gb145, 1, none⟩ = some (.int .i64 ((rd_T79 l1 x47_3).f1)) := (blk_cell BK145.out 1).trans rfl
                                  have hcz34_2 : wr.cell? ⟨gb145, 2, none⟩ = some (.int .i64 ((rd_T79 l1 x47_3).f2)) := (blk_cell BK145.out 2).trans rfl
                                  have hcz34_3 : wr.cell? ⟨gb145, 3, none⟩ = some (.int .i64 ((rd_T79 l1 x47_3).f3)) := (blk_cell BK145.out 3).trans rfl
                                  have hfz34_0 := blk_frozen BK145.out 0
                                  have hfz34_1 := blk_frozen BK145.out 1
                                  have hfz34_2 := blk_frozen BK145.out 2
                                  have hfz34_3 := blk_frozen BK145.out 3
                                  go_wp2
                                  go_meet
                                  case rel => exact ⟨_, (false), (by first | rfl | (simp; done) | (simp [*]; done)), H', ⟨by have := HK1.out; have := HJ7.out; have := HK3.out; have := HK4.out; first | omega | exact Nat.le_refl _⟩, ⟨by (with_reducible repeat (first | refine blk_drewN ?_ _ | refine blk_drew ?_ | refine blk_alloc ?_ _)); exact BK145.out⟩, ⟨by repeat (first | (with_reducible first | exact HB.out | apply below_alloc | apply pw_below_drewN | apply below_drew1 | refine below_set ?_ GE145.out) | exact HB.out)⟩⟩
                                · rw [if_neg c33] at H
                                  have c33b0 : (((rd_T79 l1 x47_3).f1) == (-1)) = false := beq_eq_false_iff_ne.mpr c33
                                  have c33b1 : (((rd_T79 l1 x47_3).f1) != (-1)) = true := bne_iff_ne.mpr c33
                                  (first | rw [c33b0] | (simp only [i64_w, i32_w]; rw [c33b0]) | skip)
                                  obtain ⟨y149, hy149⟩ : ∃ y_ : List Int, y_ = (([((rd_T79 l1 x47_3).f1)] : List Int)) := ⟨_, rfl⟩
                                  replace H : ((codemasonref_Inside.f k4 a0 y149).bind fun t152 => (codemasonref_ProgCheck.j4 k4 a0 l1 l1 (l1.length : Int) x47_3 (!t152) ((rd_T79 l1 x47_3).f0) ((rd_T79 l1 x47_3).f1) ((rd_T79 l1 x47_3).f2) ((rd_T79 l1 x47_3).f3))) = some r := by first | (rw [hy149]; with_reducible exact H) | (have H2_ := (Option.bind_some _ _).symm.trans H; rw [hy149]; with_reducible exact H2_) | (have H2_ := (Option.bind_some _ _).symm.trans H; with_reducible exact H2_) | with_reducible exact H | (rw [hy149]; exact H) | exact H
                                  have Ny149 := Aside0.mk hy149
                                  clear hy149
                                  replace H := Option.bind_eq_some_iff.mp H
                                  obtain ⟨t152, A350, H⟩ := H
                                  replace H : (codemasonref_ProgCheck.j4 k4 a0 l1 l1 (l1.length : Int) x47_3 (!t152) ((rd_T79 l1 x47_3).f0) ((rd_T79 l1 x47_3).f1) ((rd_T79 l1 x47_3).f2) ((rd_T79 l1 x47_3).f3)) = some r := H
                                  have A35 := Aside0.mk A350
                                  clear A350
                                  have H' := Aside0.mk H
                                  clear H
                                  have hcz36_0 : wr.cell? ⟨gb145, 0, none⟩ = some (.slice A144_0 ((rd_T79 l1 x47_3).f0).length c144_0) := (blk_cell BK145.out 0).trans rfl
                                  have hcz36_1 : wr.cell? ⟨gb145, 1, none⟩ = some (.int .i64 ((rd_T79 l1 x47_3).f1)) := (blk_cell BK145.out 1).trans rfl
                                  have hcz36_2 : wr.cell? ⟨gb145, 2, none⟩ = some (.int .i64 ((rd_T79 l1 x47_3).f2)) := (blk_cell BK145.out 2).trans rfl
                                  have hcz36_3 : wr.cell? ⟨gb145, 3, none⟩ = some (.int .i64 ((rd_T79 l1 x47_3).f3)) := (blk_cell BK145.out 3).trans rfl
                                  have hfz36_0 := blk_frozen BK145.out 0
                                  have hfz36_1 := blk_frozen BK145.out 1
                                  have hfz36_2 := blk_frozen BK145.out 2
                                  have hfz36_3 := blk_frozen BK145.out 3
                                  go_wp2_with (first | ((with_reducible refine gate_dst (N := 73) rfl ?_); (try (refine gate_guard (by rfl) ?_; dsimp only)); refine Kd.R_lit (Kd.int .i64) _ 3 ?hg (N := 73) ?hd (xs := ([((rd_T79 l1 x47_3).f1)] : List Int)) (inner := [.int .i64 ((rd_T79 l1 x47_3).f1)]) (ok := fun _ => True) (okp := fun _ => True) ?hr ?hp (fun _ hk => hk) trivial (Below.refl _ _) (Nat.le_refl _) (by simp) ?_; (case hd => rfl); (case hg => rfl); (case hr => first | (go_simp; done) | (go_simp; rfl)); (case hp => exact (Reps.one (show Kd.M (Kd.int .i64) _ _ _ ((rd_T79 l1 x47_3).f1) [.int .i64 ((rd_T79 l1 x47_3).f1)] from rfl) (Reps.none _ _))); intro v150 w37 ho38 hb hg_ hnew_; clear hg_ hnew_; (first | rw [← Ny149.out] at ho38 | (simp only [Int.reduceToNat] at ho38; rw [← Ny149.out] at ho38)); have n0_ := Aside0.mk (Kd.R_lower ho38 (below_size (by repeat (first | (with_reducible first | exact HB.out | apply below_alloc | apply pw_below_drewN | apply below_drew1 | refine below_set ?_ GE145.out) | exact HB.out)))); have n1_ := Aside0.mk (blk_below (g := gb145) (o := .cells #[.slice A144_0 ((rd_T79 l1 x47_3).f0).length c144_0, .int .i64 ((rd_T79 l1 x47_3).f1), .int .i64 ((rd_T79 l1 x47_3).f2), .int .i64 ((rd_T79 l1 x47_3).f3)] 79 (0, 0)) (by (with_reducible repeat (first | refine blk_drewN ?_ _ | refine blk_drew ?_ | refine blk_alloc ?_ _)); exact BK145.out) hb); have n2_ := Aside0.mk (below_step (by repeat (first | (with_reducible first | exact HB.out | apply below_alloc | apply pw_below_drewN | apply below_drew1 | refine below_set ?_ GE145.out) | exact HB.out)) hb); clear BK145; clear HB; have HO151 := n0_; have BK145 := n1_; have HB := n2_; clear n0_ n1_ n2_; clear hb ho38; obtain ⟨Ao39, co39, eo39⟩ := Kd.R_slice HO151.out; subst eo39) | (go_at_call 52; (with_reducible refine (codemasonref_Inside.calls k4 a0 _ _ y149 t152 _ ?side1 ?side2 A35.out).mono ?_); (case side1 => repeat (first | exact (Kd.R_reads' HO151.out).2.2 | (with_reducible refine Kd.C_alloc ?_ _) | (with_reducible refine Kd.C_drewN ?_ _) | (with_reducible refine Kd.C_drew ?_))); (case side2 => exact (Kd.R_reads' HO151.out).2.1); rintro e w' ⟨rfl, ⟨nd, rfl⟩⟩))
                                  go_meet
                                  case rel => exact ⟨_, (!t152), (by first | rfl | (simp; done) | (simp [*]; done)), H', ⟨by have := HK1.out; have := HJ7.out; have := HK3.out; have := HK4.out; first | omega | exact Nat.le_refl _⟩, ⟨by (with_reducible repeat (first | refine blk_drewN ?_ _ | refine blk_drew ?_ | refine blk_alloc ?_ _)); exact BK145.out⟩, ⟨by repeat (first | (with_reducible first | exact HB.out | apply below_alloc | apply pw_below_drewN | apply below_drew1 | refine below_set ?_ GE145.out) | exact HB.out)⟩⟩
                              case rest =>
                                clear HC32
                                try clear c1
                                try clear p1
                                try clear q1
                                try clear hx1
                                try clear c2
                                try clear p2
                                try clear c3
                                try clear c3b0
                                try clear c4
                                try clear c4b0
                                try clear c5
                                try clear c5b0
                                try clear p6
                                try clear c7
                                try clear c9
                                try clear c9b0
                                try clear c10
                                try clear c10b0
                                try clear c11
                                try clear c11b0
                                try clear c11b1
                                try clear c12
                                try clear c12b0
                                try clear c12b1
                                try clear c13
                                try clear c14
                                try clear c14b0
                                try clear p14
                                try clear q14
                                try clear hx14
                                try clear c15
                                try clear c15b0
                                try clear c16
                                try clear c16b0
                                try clear c19
                                try clear c19b0
                                try clear c20
                                try clear c20b0
                                try clear c21
                                try clear c21b0
                                try clear c22
                                try clear c23
                                try clear c23b0
                                try clear c23b1
                                try clear c25
                                try clear c29
                                try clear c33
                                try clear c33b0
                                try clear c33b1
                                try clear hcz18_0
                                try clear hcz18_1
                                try clear hcz18_2
                                try clear hcz18_3
                                try clear hcz26_0
                                try clear hcz26_1
                                try clear hcz26_2
                                try clear hcz26_3
                                try clear hcz26_4
                                try clear hcz30_0
                                try clear hcz30_1
                                try clear hcz30_2
                                try clear hcz30_3
                                try clear hcz30_4
                                try clear hcz34_0
                                try clear hcz34_1
                                try clear hcz34_2
                                try clear hcz34_3
                                try clear hcz36_0
                                try clear hcz36_1
                                try clear hcz36_2
                                try clear hcz36_3
                                try clear hcz7_0
                                try clear hcz7_1
                                try clear hcz7_2
                                try clear hcz7_3
                                try clear hfz18_0
                                try clear hfz18_1
                                try clear hfz18_2
                                try clear hfz18_3
                                try clear hfz26_0
                                try clear hfz26_1
                                try clear hfz26_2
                                try clear hfz26_3
                                try clear hfz26_4
                                try clear hfz30_0
                                try clear hfz30_1
                                try clear hfz30_2
                                try clear hfz30_3
                                try clear hfz30_4
                                try clear hfz34_0
                                try clear hfz34_1
                                try clear hfz34_2
                                try clear hfz34_3
                                try clear hfz36_0
                                try clear hfz36_1
                                try clear hfz36_2
                                try clear hfz36_3
                                try clear hfz7_0
                                try clear hfz7_1
                                try clear hfz7_2
                                try clear hfz7_3
                                try clear hx142_0
                                try clear hx142_1
                                try clear hx142_2
                                try clear hx142_3
                                try clear hx144_0
                                try clear hx144_1
                                try clear hx144_2
                                try clear hx144_3
                                try clear hx146_0
                                try clear hx146_1
                                try clear hx146_2
                                try clear hx146_3
                                try clear hx146_4
                                try clear p1
                                try clear p14
                                try clear p142
                                try clear p144
                                try clear p146
                                try clear p2
                                try clear p6
                                try clear q1
                                try clear q14
                                try clear q142
                                try clear q144
                                try clear q146
                                obtain ⟨kq, x76_31, rfl, HA, HJ31, BK145, HB⟩ := hcut
                                cases kq with
                                | zero => exact absurd HA.out (by simp [codemasonref_ProgCheck.j4])
                                | succ kj31 =>
                                  have H := HA.out
                                  clear HA
                                  simp only [codemasonref_ProgCheck.j4] at H
                                  by_cases c40 : x76_31 = true
                                  · subst c40
                                    have H1 : (some 2) = some r := by rw [if_pos rfl] at H; exact H
                                    clear H
                                    have H := H1
                                    clear H1
                                    obtain rfl := Option.some.inj H
                                    go_wp2
                                    go_ret
                                    exact ⟨by first | rfl | (simp [errW_none, errW_some] <;> rfl) | (simp [*, errW_none, errW_some] <;> rfl), by repeat (first | (with_reducible first | exact HB.out | apply below_alloc | apply pw_below_drewN | apply below_drew1 | refine below_set ?_ GE145.out) | exact HB.out)⟩
                                  · replace c40 := Bool.eq_false_iff.mpr c40
                                    subst c40
                                    have H1 : (if ((rd_T79 l1 x47_3).f1) = (-1) then (if ((rd_T79 l1 x47_3).f2) = (-1) then (codemasonref_ProgCheck.j5 kj31 a0 l1 l1 (l1.length : Int) x47_3 false ((rd_T79 l1 x47_3).f0) ((rd_T79 l1 x47_3).f1) ((rd_T79 l1 x47_3).f2) ((rd_T79 l1 x47_3).f3)) else ((codemasonref_Inside.f kj31 (l1.length : Int) (([((rd_T79 l1 x47_3).f2)] : List Int))).bind fun t156 => (codemasonref_ProgCheck.j5 kj31 a0 l1 l1 (l1.length : Int) x47_3 (!t156) ((rd_T79 l1 x47_3).f0) ((rd_T79 l1 x47_3).f1) ((rd_T79 l1 x47_3).f2) ((rd_T79 l1 x47_3).f3)))) else (codemasonref_ProgCheck.j5 kj31 a0 l1 l1 (l1.length : Int) x47_3 false ((rd_T79 l1 x47_3).f0) ((rd_T79 l1 x47_3).f1) ((rd_T79 l1 x47_3).f2) ((rd_T79 l1 x47_3).f3))) = some r := by rw [if_neg (show ¬ (false = true) by decide)] at H; exact H
                                    clear H
                                    have H := H1
                                    clear H1
                                    have HC41 := Aside0.mk H
                                    clear H
                                    go_upto_region 21 with (fail)
                                    go_cut [93] (fun v93 wc => ∃ (kq : Nat) (x93_40 : Bool), v93 = .bool x93_40 ∧ Aside0 (codemasonref_ProgCheck.j5 kq a0 l1 l1 (l1.length : Int) x47_3 x93_40 ((rd_T79 l1 x47_3).f0) ((rd_T79 l1 x47_3).f1) ((rd_T79 l1 x47_3).f2) ((rd_T79 l1 x47_3).f3) = some r) ∧ Aside0 (kq ≤ kj31) ∧ Aside0 (wc.heap[gb145]? = some (.cells #[(.slice A144_0 ((rd_T79 l1 x47_3).f0).length c144_0), .int .i64 ((rd_T79 l1 x47_3).f1), .int .i64 ((rd_T79 l1 x47_3).f2), .int .i64 ((rd_T79 l1 x47_3).f3)] 79 (0, 0))) ∧ Aside0 (Below w.heap.size w wc))
                                    case first =>
                                      have H := HC41.out
                                      clear HC41
                                      by_cases c42 : ((rd_T79 l1 x47_3).f1) = (-1)
                                      · rw [if_pos c42] at H
                                        have c42b0 : (((rd_T79 l1 x47_3).f1) == (-1)) = true := beq_iff_eq.mpr c42
                                        have c42b1 : (((rd_T79 l1 x47_3).f1) != (-1)) = false := bne_eq_false_iff_eq.mpr c42
                                        clear c42
                                        (first | rw [c42b0] | (simp only [i64_w, i32_w]; rw [c42b0]) | skip)
                                        by_cases c43 : ((rd_T79 l1 x47_3).f2) = (-1)
                                        · rw [if_pos c43] at H
                                          have c43b0 : (((rd_T79 l1 x47_3).f2) == (-1)) = true := beq_iff_eq.mpr c43
                                          have c43b1 : (((rd_T79 l1 x47_3).f2) != (-1)) = false := bne_eq_false_iff_eq.mpr c43
                                          clear c43
                                          have H' := Aside0.mk H
                                          clear H
                                          have hcz44_0 : wc.cell? ⟨gb145, 0, none⟩ = some (.slice A144_0 ((rd_T79 l1 x47_3).f0).length c144_0) := (blk_cell BK145.out 0).trans rfl
                                          have hcz44_1 : wc.cell? ⟨gb145, 1, none⟩ = some (.int .i64 ((rd_T79 l1 x47_3).f1)) := (blk_cell BK145.out 1).trans rfl
                                          have hcz44_2 : wc.cell? ⟨gb145, 2, none⟩ = some (.int .i64 ((rd_T79 l1 x47_3).f2)) := (blk_cell BK145.out 2).trans rfl
                                          have hcz44_3 : wc.cell? ⟨gb145, 3, none⟩ = some (.int .i64 ((rd_T79 l1 x47_3).f3)) := (blk_cell BK145.out 3).trans rfl
                                          have hfz44_0 := blk_frozen BK145.out 0
                                          have hfz44_1 := blk_frozen BK145.out 1
                                          have hfz44_2 := blk_frozen BK145.out 2
                                          have hfz44_3 := blk_frozen BK145.out 3
                                          go_wp2
                                          go_meet
                                          case rel => exact ⟨_, (false), (by first | rfl | (simp; done) | (simp [*]; done)), H', ⟨by have := HK1.out; have := HJ7.out; have := HK3.out; have := HK4.out; have := HJ31.out; first | omega | exact Nat.le_refl _⟩, ⟨by (with_reducible repeat (first | refine blk_drewN ?_ _ | refine blk_drew ?_ | refine blk_alloc ?_ _)); exact BK145.out⟩, ⟨by repeat (first | (with_reducible first | exact HB.out | apply below_alloc | apply pw_below_drewN | apply below_drew1 | refine below_set ?_ GE145.out) | exact HB.out)⟩⟩
                                        · rw [if_neg c43] at H
                                          have c43b0 : (((rd_T79 l1 x47_3).f2) == (-1)) = false := beq_eq_false_iff_ne.mpr c43
                                          have c43b1 : (((rd_T79 l1 x47_3).f2) != (-1)) = true := bne_iff_ne.mpr c43
                                          obtain ⟨y153, hy153⟩ : ∃ y_ : List Int, y_ = (([((rd_T79 l1 x47_3).f2)] : List Int)) := ⟨_, rfl⟩
                                          replace H : ((codemasonref_Inside.f kj31 (l1.length : Int) y153).bind fun t156 => (codemasonref_ProgCheck.j5 kj31 a0 l1 l1 (l1.length : Int) x47_3 (!t156) ((rd_T79 l1 x47_3).f0) ((rd_T79 l1 x47_3).f1) ((rd_T79 l1 x47_3).f2) ((rd_T79 l1 x47_3).f3))) = some r := by first | (rw [hy153]; with_reducible exact H) | (have H2_ := (Option.bind_some _ _).symm.trans H; rw [hy153]; with_reducible exact H2_) | (have H2_ := (Option.bind_some _ _).symm.trans H; with_reducible exact H2_) | with_reducible exact H | (rw [hy153]; exact H) | exact H
                                          have Ny153 := Aside0.mk hy153
                                          clear hy153
                                          replace H := Option.bind_eq_some_iff.mp H
                                          obtain ⟨t156, A450, H⟩ := H
                                          replace H : (codemasonref_ProgCheck.j5 kj31 a0 l1 l1 (l1.length : Int) x47_3 (!t156) ((rd_T79 l1 x47_3).f0) ((rd_T79 l1 x47_3).f1) ((rd_T79 l1 x47_3).f2) ((rd_T79 l1 x47_3).f3)) = some r := H
                                          have A45 := Aside0.mk A450
                                          clear A450
                                          have H' := Aside0.mk H
                                          clear H
                                          have hcz46_0 : wc.cell? ⟨gb145, 0, none⟩ = some (.slice A144_0 ((rd_T79 l1 x47_3).f0).length c144_0) := (blk_cell BK145.out 0).trans rfl
                                          have hcz46_1 : wc.cell? ⟨gb145, 1, none⟩ = some (.int .i64 ((rd_T79 l1 x47_3).f1)) := (blk_cell BK145.out 1).trans rfl
                                          have hcz46_2 : wc.cell? ⟨gb145, 2, none⟩ = some (.int .i64 ((rd_T79 l1 x47_3).f2)) := (blk_cell BK145.out 2).trans rfl
                                          have hcz46_3 : wc.cell? ⟨gb145, 3, none⟩ = some (.int .i64 ((rd_T79 l1 x47_3).f3)) := (blk_cell BK145.out 3).trans rfl
                                          have hfz46_0 := blk_frozen BK145.out 0
                                          have hfz46_1 := blk_frozen BK145.out 1
                                          have hfz46_2 := blk_frozen BK145.out 2
                                          have hfz46_3 := blk_frozen BK145.out 3
                                          go_wp2_with (first | ((with_reducible refine gate_dst (N := 90) rfl ?_); (try (refine gate_guard (by rfl) ?_; dsimp only)); refine Kd.R_lit (Kd.int .i64) _ 3 ?hg (N := 90) ?hd (xs := ([((rd_T79 l1 x47_3).f2)] : List Int)) (inner := [.int .i64 ((rd_T79 l1 x47_3).f2)]) (ok := fun _ => True) (okp := fun _ => True) ?hr ?hp (fun _ hk => hk) trivial (Below.refl _ _) (Nat.le_refl _) (by simp) ?_; (case hd => rfl); (case hg => rfl); (case hr => first | (go_simp; done) | (go_simp; rfl)); (case hp => exact (Reps.one (show Kd.M (Kd.int .i64) _ _ _ ((rd_T79 l1 x47_3).f2) [.int .i64 ((rd_T79 l1 x47_3).f2)] from rfl) (Reps.none _ _))); intro v154 w47 ho48 hb hg_ hnew_; clear hg_ hnew_; (first | rw [← Ny153.out] at ho48 | (simp only [Int.reduceToNat] at ho48; rw [← Ny153.out] at ho48)); have n0_ := Aside0.mk (Kd.R_lower ho48 (below_size (by repeat (first | (with_reducible first | exact HB.out | apply below_alloc | apply pw_below_drewN | apply below_drew1 | refine below_set ?_ GE145.out) | exact HB.out)))); have n1_ := Aside0.mk (blk_below (g := gb145) (o := .cells #[.slice A144_0 ((rd_T79 l1 x47_3).f0).length c144_0, .int .i64 ((rd_T79 l1 x47_3).f1), .int .i64 ((rd_T79 l1 x47_3).f2), .int .i64 ((rd_T79 l1 x47_3).f3)] 79 (0, 0)) (by (with_reducible repeat (first | refine blk_drewN ?_ _ | refine blk_drew ?_ | refine blk_alloc ?_ _)); exact BK145.out) hb); have n2_ := Aside0.mk (below_step (by repeat (first | (with_reducible first | exact HB.out | apply below_alloc | apply pw_below_drewN | apply below_drew1 | refine below_set ?_ GE145.out) | exact HB.out)) hb); clear BK145; clear HB; have HO155 := n0_; have BK145 := n1_; have HB := n2_; clear n0_ n1_ n2_; clear hb ho48; obtain ⟨Ao49, co49, eo49⟩ := Kd.R_slice HO155.out; subst eo49) | (go_at_call 52; (with_reducible refine (codemasonref_Inside.calls kj31 (l1.length : Int) _ _ y153 t156 _ ?side1 ?side2 A45.out).mono ?_); (case side1 => repeat (first | exact (Kd.R_reads' HO155.out).2.2 | (with_reducible refine Kd.C_alloc ?_ _) | (with_reducible refine Kd.C_drewN ?_ _) | (with_reducible refine Kd.C_drew ?_))); (case side2 => exact (Kd.R_reads' HO155.out).2.1); rintro e w' ⟨rfl, ⟨nd, rfl⟩⟩))
                                          go_meet
                                          case rel => exact ⟨_, (!t156), (by first | rfl | (simp; done) | (simp [*]; done)), H', ⟨by have := HK1.out; have := HJ7.out; have := HK3.out; have := HK4.out; have := HJ31.out; first | omega | exact Nat.le_refl _⟩, ⟨by (with_reducible repeat (first | refine blk_drewN ?_ _ | refine blk_drew ?_ | refine blk_alloc ?_ _)); exact BK145.out⟩, ⟨by repeat (first | (with_reducible first | exact HB.out | apply below_alloc | apply pw_below_drewN | apply below_drew1 | refine below_set ?_ GE145.out) | exact HB.out)⟩⟩
                                      · rw [if_neg c42] at H
                                        have c42b0 : (((rd_T79 l1 x47_3).f1) == (-1)) = false := beq_eq_false_iff_ne.mpr c42
                                        have c42b1 : (((rd_T79 l1 x47_3).f1) != (-1)) = true := bne_iff_ne.mpr c42
                                        (first | rw [c42b0] | (simp only [i64_w, i32_w]; rw [c42b0]) | skip)
                                        have H' := Aside0.mk H
                                        clear H
                                        have hcz50_0 : wc.cell? ⟨gb145, 0, none⟩ = some (.slice A144_0 ((rd_T79 l1 x47_3).f0).length c144_0) := (blk_cell BK145.out 0).trans rfl
                                        have hcz50_1 : wc.cell? ⟨gb145, 1, none⟩ = some (.int .i64 ((rd_T79 l1 x47_3).f1)) := (blk_cell BK145.out 1).trans rfl
                                        have hcz50_2 : wc.cell? ⟨gb145, 2, none⟩ = some (.int .i64 ((rd_T79 l1 x47_3).f2)) := (blk_cell BK145.out 2).trans rfl
                                        have hcz50_3 : wc.cell? ⟨gb145, 3, none⟩ = some (.int .i64 ((rd_T79 l1 x47_3).f3)) := (blk_cell BK145.out 3).trans rfl
                                        have hfz50_0 := blk_frozen BK145.out 0
                                        have hfz50_1 := blk_frozen BK145.out 1
                                        have hfz50_2 := blk_frozen BK145.out 2
                                        have hfz50_3 := blk_frozen BK145.out 3
                                        go_wp2
                                        go_meet
                                        case rel => exact ⟨_, (false), (by first | rfl | (simp; done) | (simp [*]; done)), H', ⟨by have := HK1.out; have := HJ7.out; have := HK3.out; have := HK4.out; have := HJ31.out; first | omega | exact Nat.le_refl _⟩, ⟨by (with_reducible repeat (first | refine blk_drewN ?_ _ | refine blk_drew ?_ | refine blk_alloc ?_ _)); exact BK145.out⟩, ⟨by repeat (first | (with_reducible first | exact HB.out | apply below_alloc | apply pw_below_drewN | apply below_drew1 | refine below_set ?_ GE145.out) | exact HB.out)⟩⟩
                                    case rest =>
                                      clear HC41
                                      try clear c1
                                      try clear p1
                                      try clear q1
                                      try clear hx1
                                      try clear c2
                                      try clear p2
                                      try clear c3
                                      try clear c3b0
                                      try clear c4
                                      try clear c4b0
                                      try clear c5
                                      try clear c5b0
                                      try clear p6
                                      try clear c7
                                      try clear c9
                                      try clear c9b0
                                      try clear c10
                                      try clear c10b0
                                      try clear c11
                                      try clear c11b0
                                      try clear c11b1
                                      try clear c12
                                      try clear c12b0
                                      try clear c12b1
                                      try clear c13
                                      try clear c14
                                      try clear c14b0
                                      try clear p14
                                      try clear q14
                                      try clear hx14
                                      try clear c15
                                      try clear c15b0
                                      try clear c16
                                      try clear c16b0
                                      try clear c19
                                      try clear c19b0
                                      try clear c20
                                      try clear c20b0
                                      try clear c21
                                      try clear c21b0
                                      try clear c22
                                      try clear c23
                                      try clear c23b0
                                      try clear c23b1
                                      try clear c25
                                      try clear c29
                                      try clear c33
                                      try clear c33b0
                                      try clear c33b1
                                      try clear c40
                                      try clear c42
                                      try clear c42b0
                                      try clear c42b1
                                      try clear c43
                                      try clear c43b0
                                      try clear c43b1
                                      try clear hcz18_0
                                      try clear hcz18_1
                                      try clear hcz18_2
                                      try clear hcz18_3
                                      try clear hcz26_0
                                      try clear hcz26_1
                                      try clear hcz26_2
                                      try clear hcz26_3
                                      try clear hcz26_4
                                      try clear hcz30_0
                                      try clear hcz30_1
                                      try clear hcz30_2
                                      try clear hcz30_3
                                      try clear hcz30_4
                                      try clear hcz34_0
                                      try clear hcz34_1
                                      try clear hcz34_2
                                      try clear hcz34_3
                                      try clear hcz36_0
                                      try clear hcz36_1
                                      try clear hcz36_2
                                      try clear hcz36_3
                                      try clear hcz44_0
                                      try clear hcz44_1
                                      try clear hcz44_2
                                      try clear hcz44_3
                                      try clear hcz46_0
                                      try clear hcz46_1
                                      try clear hcz46_2
                                      try clear hcz46_3
                                      try clear hcz50_0
                                      try clear hcz50_1
                                      try clear hcz50_2
                                      try clear hcz50_3
                                      try clear hcz7_0
                                      try clear hcz7_1
                                      try clear hcz7_2
                                      try clear hcz7_3
                                      try clear hfz18_0
                                      try clear hfz18_1
                                      try clear hfz18_2
                                      try clear hfz18_3
                                      try clear hfz26_0
                                      try clear hfz26_1
                                      try clear hfz26_2
                                      try clear hfz26_3
                                      try clear hfz26_4
                                      try clear hfz30_0
                                      try clear hfz30_1
                                      try clear hfz30_2
                                      try clear hfz30_3
                                      try clear hfz30_4
                                      try clear hfz34_0
                                      try clear hfz34_1
                                      try clear hfz34_2
                                      try clear hfz34_3
                                      try clear hfz36_0
                                      try clear hfz36_1
                                      try clear hfz36_2
                                      try clear hfz36_3
                                      try clear hfz44_0
                                      try clear hfz44_1
                                      try clear hfz44_2
                                      try clear hfz44_3
                                      try clear hfz46_0
                                      try clear hfz46_1
                                      try clear hfz46_2
                                      try clear hfz46_3
                                      try clear hfz50_0
                                      try clear hfz50_1
                                      try clear hfz50_2
                                      try clear hfz50_3
                                      try clear hfz7_0
                                      try clear hfz7_1
                                      try clear hfz7_2
                                      try clear hfz7_3
                                      try clear hx142_0
                                      try clear hx142_1
                                      try clear hx142_2
                                      try clear hx142_3
                                      try clear hx144_0
                                      try clear hx144_1
                                      try clear hx144_2
                                      try clear hx144_3
                                      try clear hx146_0
                                      try clear hx146_1
                                      try clear hx146_2
                                      try clear hx146_3
                                      try clear hx146_4
                                      try clear p1
                                      try clear p14
                                      try clear p142
                                      try clear p144
                                      try clear p146
                                      try clear p2
                                      try clear p6
                                      try clear q1
                                      try clear q14
                                      try clear q142
                                      try clear q144
                                      try clear q146
                                      obtain ⟨kq, x93_40, rfl, HA, HJ40, BK145, HB⟩ := hcut
                                      cases kq with
                                      | zero => exact absurd HA.out (by simp [codemasonref_ProgCheck.j5])
                                      | succ kj40 =>
                                        have H := HA.out
                                        clear HA
                                        simp only [codemasonref_ProgCheck.j5] at H
                                        by_cases c51 : x93_40 = true
                                        · subst c51
                                          have H1 : (some 3) = some r := by rw [if_pos rfl] at H; exact H
                                          clear H
                                          have H := H1
                                          clear H1
                                          obtain rfl := Option.some.inj H
                                          go_wp2
                                          go_ret
                                          exact ⟨by first | rfl | (simp [errW_none, errW_some] <;> rfl) | (simp [*, errW_none, errW_some] <;> rfl), by repeat (first | (with_reducible first | exact HB.out | apply below_alloc | apply pw_below_drewN | apply below_drew1 | refine below_set ?_ GE145.out) | exact HB.out)⟩
                                        · replace c51 := Bool.eq_false_iff.mpr c51
                                          subst c51
                                          have H1 : (if ((rd_T79 l1 x47_3).f1) ≥ 0 then ((codemasonref_Inside.f kj40 (l1.length : Int) (([((rd_T79 l1 x47_3).f2), ((rd_T79 l1 x47_3).f3)] : List Int))).bind fun t160 => (if t160 = true then (codemasonref_ProgCheck.l1 kj40 a0 l1 l1 (l1.length : Int) (wrap64 (x47_3 + 1))) else (some 3))) else (codemasonref_ProgCheck.l1 kj40 a0 l1 l1 (l1.length : Int) (wrap64 (x47_3 + 1)))) = some r := by rw [if_neg (show ¬ (false = true) by decide)] at H; exact H
                                          clear H
                                          have H := H1
                                          clear H1
                                          by_cases c52 : ((rd_T79 l1 x47_3).f1) ≥ 0
                                          · rw [if_pos c52] at H
                                            have c52b0 : decide (0 ≤ ((rd_T79 l1 x47_3).f1)) = true := decide_eq_true c52
                                            clear c52
                                            obtain ⟨y157, hy157⟩ : ∃ y_ : List Int, y_ = (([((rd_T79 l1 x47_3).f2), ((rd_T79 l1 x47_3).f3)] : List Int)) := ⟨_, rfl⟩
                                            replace H : ((codemasonref_Inside.f kj40 (l1.length : Int) y157).bind fun t160 => (if t160 = true then (codemasonref_ProgCheck.l1 kj40 a0 l1 l1 (l1.length : Int) (wrap64 (x47_3 + 1))) else (some 3))) = some r := by first | (rw [hy157]; with_reducible exact H) | (have H2_ := (Option.bind_some _ _).symm.trans H; rw [hy157]; with_reducible exact H2_) | (have H2_ := (Option.bind_some _ _).symm.trans H; with_reducible exact H2_) | with_reducible exact H | (rw [hy157]; exact H) | exact H
                                            have Ny157 := Aside0.mk hy157
                                            clear hy157
                                            replace H := Option.bind_eq_some_iff.mp H
                                            obtain ⟨t160, A530, H⟩ := H
                                            replace H : (if t160 = true then (codemasonref_ProgCheck.l1 kj40 a0 l1 l1 (l1.length : Int) (wrap64 (x47_3 + 1))) else (some 3)) = some r := H
                                            have A53 := Aside0.mk A530
                                            clear A530
                                            by_cases c54 : t160 = true
                                            · subst c54
                                              have H1 : (codemasonref_ProgCheck.l1 kj40 a0 l1 l1 (l1.length : Int) (wrap64 (x47_3 + 1))) = some r := by rw [if_pos rfl] at H; exact H
                                              clear H
                                              have H := H1
                                              clear H1
                                              have H' := Aside0.mk H
                                              clear H
                                              have hcz55_0 : wc.cell? ⟨gb145, 0, none⟩ = some (.slice A144_0 ((rd_T79 l1 x47_3).f0).length c144_0) := (blk_cell BK145.out 0).trans rfl
                                              have hcz55_1 : wc.cell? ⟨gb145, 1, none⟩ = some (.int .i64 ((rd_T79 l1 x47_3).f1)) := (blk_cell BK145.out 1).trans rfl
                                              have hcz55_2 : wc.cell? ⟨gb145, 2, none⟩ = some (.int .i64 ((rd_T79 l1 x47_3).f2)) := (blk_cell BK145.out 2).trans rfl
                                              have hcz55_3 : wc.cell? ⟨gb145, 3, none⟩ = some (.int .i64 ((rd_T79 l1 x47_3).f3)) := (blk_cell BK145.out 3).trans rfl
                                              have hfz55_0 := blk_frozen BK145.out 0
                                              have hfz55_1 := blk_frozen BK145.out 1
                                              have hfz55_2 := blk_frozen BK145.out 2
                                              have hfz55_3 := blk_frozen BK145.out 3
                                              go_wp2_with (first | ((with_reducible refine gate_dst (N := 104) rfl ?_); (try (refine gate_guard (by rfl) ?_; dsimp only)); refine Kd.R_lit (Kd.int .i64) _ 3 ?hg (N := 104) ?hd (xs := ([((rd_T79 l1 x47_3).f2), ((rd_T79 l1 x47_3).f3)] : List Int)) (inner := [.int .i64 ((rd_T79 l1 x47_3).f2), .int .i64 ((rd_T79 l1 x47_3).f3)]) (ok := fun _ => True) (okp := fun _ => True) ?hr ?hp (fun _ hk => hk) trivial (Below.refl _ _) (Nat.le_refl _) (by simp) ?_; (case hd => rfl); (case hg => rfl); (case hr => first | (go_simp; done) | (go_simp; rfl)); (case hp => exact (Reps.one (show Kd.M (Kd.int .i64) _ _ _ ((rd_T79 l1 x47_3).f2) [.int .i64 ((rd_T79 l1 x47_3).f2)] from rfl) (Reps.one (show Kd.M (Kd.int .i64) _ _ _ ((rd_T79 l1 x47_3).f3) [.int .i64 ((rd_T79 l1 x47_3).f3)] from rfl) (Reps.none _ _)))); intro v158 w56 ho57 hb hg_ hnew_; clear hg_ hnew_; (first | rw [← Ny157.out] at ho57 | (simp only [Int.reduceToNat] at ho57; rw [← Ny157.out] at ho57)); have n0_ := Aside0.mk (Kd.R_lower ho57 (below_size (by repeat (first | (with_reducible first | exact HB.out | apply below_alloc | apply pw_below_drewN | apply below_drew1 | refine below_set ?_ GE145.out) | exact HB.out)))); have n1_ := Aside0.mk (blk_below (g := gb145) (o := .cells #[.slice A144_0 ((rd_T79 l1 x47_3).f0).length c144_0, .int .i64 ((rd_T79 l1 x47_3).f1), .int .i64 ((rd_T79 l1 x47_3).f2), .int .i64 ((rd_T79 l1 x47_3).f3)] 79 (0, 0)) (by (with_reducible repeat (first | refine blk_drewN ?_ _ | refine blk_drew ?_ | refine blk_alloc ?_ _)); exact BK145.out) hb); have n2_ := Aside0.mk (below_step (by repeat (first | (with_reducible first | exact HB.out | apply below_alloc | apply pw_below_drewN | apply below_drew1 | refine below_set ?_ GE145.out) | exact HB.out)) hb); clear BK145; clear HB; have HO159 := n0_; have BK145 := n1_; have HB := n2_; clear n0_ n1_ n2_; clear hb ho57; obtain ⟨Ao58, co58, eo58⟩ := Kd.R_slice HO159.out; subst eo58) | (go_at_call 52; (with_reducible refine (codemasonref_Inside.calls kj40 (l1.length : Int) _ _ y157 true _ ?side1 ?side2 A53.out).mono ?_); (case side1 => repeat (first | exact (Kd.R_reads' HO159.out).2.2 | (with_reducible refine Kd.C_alloc ?_ _) | (with_reducible refine Kd.C_drewN ?_ _) | (with_reducible refine Kd.C_drew ?_))); (case side2 => exact (Kd.R_reads' HO159.out).2.1); rintro e w' ⟨rfl, ⟨nd, rfl⟩⟩))
                                              go_roundg kj40
                                              case measure => have := HK1.out; have := HJ7.out; have := HK3.out; have := HK4.out; have := HJ31.out; have := HJ40.out; omega
                                              case rel => exact ⟨(wrap64 (x47_3 + 1)), (by first | rfl | (simp; done) | (simp [*]; done)), H', ⟨by have := HK1.out; have := HJ7.out; have := HK3.out; have := HK4.out; have := HJ31.out; have := HJ40.out; omega⟩, ⟨by repeat (first | (with_reducible first | exact HB.out | apply below_alloc | apply pw_below_drewN | apply below_drew1 | refine below_set ?_ GE145.out) | exact HB.out)⟩⟩
                                            · replace c54 := Bool.eq_false_iff.mpr c54
                                              subst c54
                                              have H1 : (some 3) = some r := by rw [if_neg (show ¬ (false = true) by decide)] at H; exact H
                                              clear H
                                              have H := H1
                                              clear H1
                                              obtain rfl := Option.some.inj H
                                              have hcz59_0 : wc.cell? ⟨gb145, 0, none⟩ = some (.slice A144_0 ((rd_T79 l1 x47_3).f0).length c144_0) := (blk_cell BK145.out 0).trans rfl
                                              have hcz59_1 : wc.cell? ⟨gb145, 1, none⟩ = some (.int .i64 ((rd_T79 l1 x47_3).f1)) := (blk_cell BK145.out 1).trans rfl
                                              have hcz59_2 : wc.cell? ⟨gb145, 2, none⟩ = some (.int .i64 ((rd_T79 l1 x47_3).f2)) := (blk_cell BK145.out 2).trans rfl
                                              have hcz59_3 : wc.cell? ⟨gb145, 3, none⟩ = some (.int .i64 ((rd_T79 l1 x47_3).f3)) := (blk_cell BK145.out 3).trans rfl
                                              have hfz59_0 := blk_frozen BK145.out 0
                                              have hfz59_1 := blk_frozen BK145.out 1
                                              have hfz59_2 := blk_frozen BK145.out 2
                                              have hfz59_3 := blk_frozen BK145.out 3
                                              go_wp2_with (first | ((with_reducible refine gate_dst (N := 104) rfl ?_); (try (refine gate_guard (by rfl) ?_; dsimp only)); refine Kd.R_lit (Kd.int .i64) _ 3 ?hg (N := 104) ?hd (xs := ([((rd_T79 l1 x47_3).f2), ((rd_T79 l1 x47_3).f3)] : List Int)) (inner := [.int .i64 ((rd_T79 l1 x47_3).f2), .int .i64 ((rd_T79 l1 x47_3).f3)]) (ok := fun _ => True) (okp := fun _ => True) ?hr ?hp (fun _ hk => hk) trivial (Below.refl _ _) (Nat.le_refl _) (by simp) ?_; (case hd => rfl); (case hg => rfl); (case hr => first | (go_simp; done) | (go_simp; rfl)); (case hp => exact (Reps.one (show Kd.M (Kd.int .i64) _ _ _ ((rd_T79 l1 x47_3).f2) [.int .i64 ((rd_T79 l1 x47_3).f2)] from rfl) (Reps.one (show Kd.M (Kd.int .i64) _ _ _ ((rd_T79 l1 x47_3).f3) [.int .i64 ((rd_T79 l1 x47_3).f3)] from rfl) (Reps.none _ _)))); intro v158 w60 ho61 hb hg_ hnew_; clear hg_ hnew_; (first | rw [← Ny157.out] at ho61 | (simp only [Int.reduceToNat] at ho61; rw [← Ny157.out] at ho61)); have n0_ := Aside0.mk (Kd.R_lower ho61 (below_size (by repeat (first | (with_reducible first | exact HB.out | apply below_alloc | apply pw_below_drewN | apply below_drew1 | refine below_set ?_ GE145.out) | exact HB.out)))); have n1_ := Aside0.mk (blk_below (g := gb145) (o := .cells #[.slice A144_0 ((rd_T79 l1 x47_3).f0).length c144_0, .int .i64 ((rd_T79 l1 x47_3).f1), .int .i64 ((rd_T79 l1 x47_3).f2), .int .i64 ((rd_T79 l1 x47_3).f3)] 79 (0, 0)) (by (with_reducible repeat (first | refine blk_drewN ?_ _ | refine blk_drew ?_ | refine blk_alloc ?_ _)); exact BK145.out) hb); have n2_ := Aside0.mk (below_step (by repeat (first | (with_reducible first | exact HB.out | apply below_alloc | apply pw_below_drewN | apply below_drew1 | refine below_set ?_ GE145.out) | exact HB.out)) hb); clear BK145; clear HB; have HO159 := n0_; have BK145 := n1_; have HB := n2_; clear n0_ n1_ n2_; clear hb ho61; obtain ⟨Ao62, co62, eo62⟩ := Kd.R_slice HO159.out; subst eo62) | (go_at_call 52; (with_reducible refine (codemasonref_Inside.calls kj40 (l1.length : Int) _ _ y157 false _ ?side1 ?side2 A53.out).mono ?_); (case side1 => repeat (first | exact (Kd.R_reads' HO159.out).2.2 | (with_reducible refine Kd.C_alloc ?_ _) | (with_reducible refine Kd.C_drewN ?_ _) | (with_reducible refine Kd.C_drew ?_))); (case side2 => exact (Kd.R_reads' HO159.out).2.1); rintro e w' ⟨rfl, ⟨nd, rfl⟩⟩))
                                              go_ret
                                              exact ⟨by first | rfl | (simp [errW_none, errW_some] <;> rfl) | (simp [*, errW_none, errW_some] <;> rfl), by repeat (first | (with_reducible first | exact HB.out | apply below_alloc | apply pw_below_drewN | apply below_drew1 | refine below_set ?_ GE145.out) | exact HB.out)⟩
                                          · rw [if_neg c52] at H
                                            have c52b0 : decide (0 ≤ ((rd_T79 l1 x47_3).f1)) = false := decide_eq_false c52
                                            clear c52
                                            have H' := Aside0.mk H
                                            clear H
                                            have hcz63_0 : wc.cell? ⟨gb145, 0, none⟩ = some (.slice A144_0 ((rd_T79 l1 x47_3).f0).length c144_0) := (blk_cell BK145.out 0).trans rfl
                                            have hcz63_1 : wc.cell? ⟨gb145, 1, none⟩ = some (.int .i64 ((rd_T79 l1 x47_3).f1)) := (blk_cell BK145.out 1).trans rfl
                                            have hcz63_2 : wc.cell? ⟨gb145, 2, none⟩ = some (.int .i64 ((rd_T79 l1 x47_3).f2)) := (blk_cell BK145.out 2).trans rfl
                                            have hcz63_3 : wc.cell? ⟨gb145, 3, none⟩ = some (.int .i64 ((rd_T79 l1 x47_3).f3)) := (blk_cell BK145.out 3).trans rfl
                                            have hfz63_0 := blk_frozen BK145.out 0
                                            have hfz63_1 := blk_frozen BK145.out 1
                                            have hfz63_2 := blk_frozen BK145.out 2
                                            have hfz63_3 := blk_frozen BK145.out 3
                                            go_wp2
                                            go_roundg kj40
                                            case measure => have := HK1.out; have := HJ7.out; have := HK3.out; have := HK4.out; have := HJ31.out; have := HJ40.out; omega
                                            case rel => exact ⟨(wrap64 (x47_3 + 1)), (by first | rfl | (simp; done) | (simp [*]; done)), H', ⟨by have := HK1.out; have := HJ7.out; have := HK3.out; have := HK4.out; have := HJ31.out; have := HJ40.out; omega⟩, ⟨by repeat (first | (with_reducible first | exact HB.out | apply below_alloc | apply pw_below_drewN | apply below_drew1 | refine below_set ?_ GE145.out) | exact HB.out)⟩⟩
                      · rw [if_neg c16] at H
                        exact absurd H (by simp)
                    · rw [if_neg c15] at H
                      exact absurd H (by simp)
                  · rw [if_neg c14] at H
                    have c14b0 : decide (x47_3 < (l1.length : Int)) = false := decide_eq_false c14
                    clear c14
                    obtain rfl := Option.some.inj H
                    go_wp2
                    go_ret
                    exact ⟨by first | rfl | (simp [errW_none, errW_some] <;> rfl) | (simp [*, errW_none, errW_some] <;> rfl), by repeat (first | (with_reducible first | exact HB.out | apply below_alloc | apply pw_below_drewN | apply below_drew1) | exact HB.out)⟩
end Go.Proofs.Ytaicamjpcnhjcaa.PA
namespace Go.Proofs.Ytaicamjpcnhjcaa.PA
open Go.RowKit Go.Proofs.YtaicamjpcnhjcaaW.PrintWords Go.Proofs.YtaicamjpcnhjcaaW.PrintLast Go.Proofs.YtaicamjpcnhjcaaW.PrintMore
set_option linter.unusedVariables false
set_option linter.unusedSimpArgs false
def codemasonref_Ints.l0 : Nat → List Int → List Int → Int → Option (Bool)
  | 0, _, _, _ => none
  | k + 1, x0, x1, x5 => if x5 < (x0.length : Int) then (if 0 ≤ x5 then (if x5 < (x1.length : Int) then (if (rd x0 x5) = (rd x1 x5) then (codemasonref_Ints.l0 k x0 x1 (wrap64 (x5 + 1))) else (some false)) else (none)) else (none)) else (some true)
def codemasonref_Ints.f (k : Nat) (l0 : List Int) (l1 : List Int) : Option (Bool) := if (l0.length : Int) = (l1.length : Int) then (codemasonref_Ints.l0 k l0 l1 0) else (some false)
theorem codemasonref_Ints.mono_l : ∀ k, (∀ y0 y1 y2, LeO (codemasonref_Ints.l0 k y0 y1 y2) (codemasonref_Ints.l0 (k + 1) y0 y1 y2))
  | 0 => fun _ _ _ r h => by simp [codemasonref_Ints.l0] at h
  | k + 1 => by
    have ih0 := codemasonref_Ints.mono_l k
    · intro y0 y1 y2
      unfold codemasonref_Ints.l0
      repeat' first
      | (with_reducible exact ih0 _ _ _)
      | (with_reducible exact LeO.refl _)
      | (with_reducible exact LeO.none _)
      | (with_reducible refine LeO.ite ?_ ?_)
      | (with_reducible refine LeO.bind ?_ (fun _ => ?_))
      | exact ih0 _ _ _
      | exact LeO.none _
      | refine LeO.ite ?_ ?_
      | refine LeO.bind ?_ (fun _ => ?_)
theorem codemasonref_Ints.mono : ∀ a0 a1 k, LeO (codemasonref_Ints.f k a0 a1) (codemasonref_Ints.f (k + 1) a0 a1) := by
  intro a0 a1 k
  have ih0 := codemasonref_Ints.mono_l k
  unfold codemasonref_Ints.f
  repeat' first
      | (with_reducible exact ih0 _ _ _)
      | (with_reducible exact LeO.refl _)
      | (with_reducible exact LeO.none _)
      | (with_reducible refine LeO.ite ?_ ?_)
      | (with_reducible refine LeO.bind ?_ (fun _ => ?_))
      | exact ih0 _ _ _
      | exact LeO.none _
      | refine LeO.ite ?_ ?_
      | refine LeO.bind ?_ (fun _ => ?_)
set_option maxHeartbeats 8000000 in
set_option maxRecDepth 100000 in
theorem codemasonref_Ints.calls (k : Nat) (A0 : Option Addr) (c0 : Nat) (l0 : List Int) (A1 : Option Addr) (c1 : Nat) (l1 : List Int) (r : Bool) (w : World) (hr0 : Kd.C (Kd.int .i64) w A0 l0.length l0) (hc0 : l0.length ≤ c0) (hr1 : Kd.C (Kd.int .i64) w A1 l1.length l1) (hc1 : l1.length ≤ c1) (h : codemasonref_Ints.f k l0 l1 = some r) :
    Calls Try.prog 24 #[.slice A0 l0.length c0, .slice A1 l1.length c1] w fun e w' => e = .returned (.bool r) ∧ Drawn0 w w' := by
  have HR0 := Aside0.mk hr0
  have HC0 := Aside0.mk hc0
  clear hr0 hc0
  have HR1 := Aside0.mk hr1
  have HC1 := Aside0.mk hc1
  clear hr1 hc1
  have H : (if (l0.length : Int) = (l1.length : Int) then (codemasonref_Ints.l0 k l0 l1 0) else (some false)) = some r := h
  clear h
  by_cases c3 : (l0.length : Int) = (l1.length : Int)
  · rw [if_pos c3] at H
    have c3b0 : ((l0.length : Int) == (l1.length : Int)) = true := beq_iff_eq.mpr c3
    have c3b1 : ((l0.length : Int) != (l1.length : Int)) = false := bne_eq_false_iff_eq.mpr c3
    have c3b2 : (l0.length == l1.length) = true := by first | simpa using c3 | (simp at c3 ⊢; omega)
    clear c3
    have H' := Aside0.mk H
    clear H
    go_enter Try.func24, Try.ntmps24
    go_wp2
    repeat (go_quiet (fail); try go_wp2)
    go_loopg [5] k (fun kq v5 w' => ∃ (x5_1 : Int), v5 = .int .i64 x5_1 ∧ Aside0 (codemasonref_Ints.l0 kq l0 l1 x5_1 = some r) ∧ Aside0 (kq ≤ k) ∧ Drawn0 w w')
    case atStart => exact ⟨(0), (by first | rfl | (simp; done) | (simp [*]; done)), H', ⟨Nat.le_refl _⟩, by repeat (first | exact Drawn0.refl _ | apply Drawn0.step)⟩
    case round =>
      clear H'
      try clear c1
      try clear c2
      try clear p2
      try clear c3
      try clear c3b0
      try clear c3b1
      try clear c3b2
      obtain ⟨x5_1, rfl, HA, HK1, ⟨m1, rfl⟩⟩ := hrel
      cases gk with
      | zero => exact absurd HA.out (by simp [codemasonref_Ints.l0])
      | succ k1 =>
        have H := HA.out
        clear HA
        simp only [codemasonref_Ints.l0] at H
        by_cases c4 : x5_1 < (l0.length : Int)
        · rw [if_pos c4] at H
          have c4b0 : decide (x5_1 < (l0.length : Int)) = true := decide_eq_true c4
          clear c4
          by_cases c5 : 0 ≤ x5_1
          · rw [if_pos c5] at H
            have c5b0 : decide (0 ≤ x5_1) = true := decide_eq_true c5
            clear c5
            by_cases c6 : x5_1 < (l1.length : Int)
            · rw [if_pos c6] at H
              have c6b0 : decide (x5_1 < (l1.length : Int)) = true := decide_eq_true c6
              clear c6
              by_cases c7 : (rd l0 x5_1) = (rd l1 x5_1)
              · rw [if_pos c7] at H
                have c7b0 : ((rd l0 x5_1) == (rd l1 x5_1)) = true := beq_iff_eq.mpr c7
                have c7b1 : ((rd l0 x5_1) != (rd l1 x5_1)) = false := bne_eq_false_iff_eq.mpr c7
                clear c7
                have H' := Aside0.mk H
                clear H
                have p248 : 0 ≤ (x5_1 : Int) := of_decide_eq_true (by first | (with_reducible assumption) | assumption)
                have q248 : x5_1 < (l0.length : Int) := of_decide_eq_true (by first | (with_reducible assumption) | assumption)
                obtain ⟨ad248, e248, hx248_0⟩ := Kd.at_int HR0.out x5_1 p248 q248
                cases e248
                replace p248 := eq_true p248
                replace q248 := eq_true q248
                have p249 : 0 ≤ (x5_1 : Int) := of_decide_eq_true (by first | (with_reducible assumption) | assumption)
                have q249 : x5_1 < (l1.length : Int) := of_decide_eq_true (by first | (with_reducible assumption) | assumption)
                obtain ⟨ad249, e249, hx249_0⟩ := Kd.at_int HR1.out x5_1 p249 q249
                cases e249
                replace p249 := eq_true p249
                replace q249 := eq_true q249
                go_wp2
                repeat (go_quiet (fail); try go_wp2)
                go_roundg k1
                case measure => have := HK1.out; omega
                case rel => exact ⟨(wrap64 (x5_1 + 1)), (by first | rfl | (simp; done) | (simp [*]; done)), H', ⟨by have := HK1.out; omega⟩, by repeat (first | exact Drawn0.refl _ | apply Drawn0.step)⟩
              · rw [if_neg c7] at H
                have c7b0 : ((rd l0 x5_1) == (rd l1 x5_1)) = false := beq_eq_false_iff_ne.mpr c7
                have c7b1 : ((rd l0 x5_1) != (rd l1 x5_1)) = true := bne_iff_ne.mpr c7
                obtain rfl := Option.some.inj H
                have p248 : 0 ≤ (x5_1 : Int) := of_decide_eq_true (by first | (with_reducible assumption) | assumption)
                have q248 : x5_1 < (l0.length : Int) := of_decide_eq_true (by first | (with_reducible assumption) | assumption)
                obtain ⟨ad248, e248, hx248_0⟩ := Kd.at_int HR0.out x5_1 p248 q248
                cases e248
                replace p248 := eq_true p248
                replace q248 := eq_true q248
                have p249 : 0 ≤ (x5_1 : Int) := of_decide_eq_true (by first | (with_reducible assumption) | assumption)
                have q249 : x5_1 < (l1.length : Int) := of_decide_eq_true (by first | (with_reducible assumption) | assumption)
                obtain ⟨ad249, e249, hx249_0⟩ := Kd.at_int HR1.out x5_1 p249 q249
                cases e249
                replace p249 := eq_true p249
                replace q249 := eq_true q249
                go_wp2
                repeat (go_quiet (fail); try go_wp2)
                go_ret
                exact ⟨by first | rfl | (simp; done) | (simp [*]; done), by repeat (first | exact Drawn0.refl _ | apply Drawn0.step)⟩
            · rw [if_neg c6] at H
              exact absurd H (by simp)
          · rw [if_neg c5] at H
            exact absurd H (by simp)
        · rw [if_neg c4] at H
          have c4b0 : decide (x5_1 < (l0.length : Int)) = false := decide_eq_false c4
          clear c4
          obtain rfl := Option.some.inj H
          go_wp2
          repeat (go_quiet (fail); try go_wp2)
          go_ret
          exact ⟨by first | rfl | (simp; done) | (simp [*]; done), by repeat (first | exact Drawn0.refl _ | apply Drawn0.step)⟩
  · rw [if_neg c3] at H
    have c3b0 : ((l0.length : Int) == (l1.length : Int)) = false := beq_eq_false_iff_ne.mpr c3
    have c3b1 : ((l0.length : Int) != (l1.length : Int)) = true := bne_iff_ne.mpr c3
    have c3b2 : (l0.length == l1.length) = false := by first | simpa using c3 | (simp at c3 ⊢; omega)
    obtain rfl := Option.some.inj H
    go_enter Try.func24, Try.ntmps24
    go_wp2
    repeat (go_quiet (fail); try go_wp2)
    go_ret
    exact ⟨by first | rfl | (simp; done) | (simp [*]; done), by repeat (first | exact Drawn0.refl _ | apply Drawn0.step)⟩
end Go.Proofs.Ytaicamjpcnhjcaa.PA
namespace Go.Proofs.Ytaicamjpcnhjcaa.PA
open Go.RowKit Go.Proofs.YtaicamjpcnhjcaaW.PrintWords Go.Proofs.YtaicamjpcnhjcaaW.PrintLast Go.Proofs.YtaicamjpcnhjcaaW.PrintMore
set_option linter.unusedVariables false
set_option linter.unusedSimpArgs false
theorem ret_int {k : IntKind} {a b : Int} (h : a = b) : Ending.returned (Value.int k a) = .returned (.int k b) := by rw [h]
theorem drop_at {α : Type} (d : α) {l : List α} {k : Nat} (h : k < l.length) : l.drop k = l.getD k d :: l.drop (k + 1) := by
  rw [List.drop_eq_getElem_cons h, List.getD_eq_getElem?_getD, List.getElem?_eq_getElem h]; rfl
theorem box_cell {w wr : World} {v : Value} {t : TypeId} (hb : Below (w.heap.size + 1) (w.alloc (.cells #[v] t)) wr) : wr.cell? ⟨w.heap.size, 0, none⟩ = some v :=
  (hb.cell (p := ⟨w.heap.size, 0, none⟩) (by simp)).trans (by simp [go_sem])
theorem box_cells {w wr : World} {cs : Array Value} {t : TypeId} (hb : Below (w.heap.size + 1) (w.alloc (.cells cs t)) wr) (j : Nat) {v : Value} (hv : cs[j]? = some v) : wr.cell? ⟨w.heap.size, j, none⟩ = some v :=
  (hb.cell (p := ⟨w.heap.size, j, none⟩) (by simp)).trans (by simp [go_sem, hv])
theorem below_box {w wr : World} {o : Obj} (hb : Below (w.heap.size + 1) (w.alloc o) wr) : Below w.heap.size w wr := ((Below.refl _ _).alloc (Nat.le_refl _) _).trans (hb.mono (Nat.le_succ _))
theorem below_alloc_then {B N : Nat} {w w1 w2 : World} {o : Obj} (h : Below B w w1) (hB : B ≤ w1.heap.size) (k : Below N (w1.alloc o) w2) (hN : B ≤ N) : Below B w w2 := (h.alloc hB o).trans (k.mono hN)
theorem box_size {w wr : World} {o : Obj} (hb : Below (w.heap.size + 1) (w.alloc o) wr) : w.heap.size + 1 ≤ wr.heap.size := by simpa using hb.size
section
variable {w : World} {A : Option Addr} {n : Nat}
theorem T111_at {xs : List S111} (h : Kd.C k111 w A n xs) (k : Nat) (hk : k < n) : ∃ ad, A = some ad ∧ w.cell? (ad.add (k * 5)) = some (.int .i64 (xs.getD k z111).f0) ∧ w.cell? ⟨(ad.add (k * 5)).block, (ad.add (k * 5)).off + 1, none⟩ = some (.int .i64 (xs.getD k z111).f1) ∧ w.cell? ⟨(ad.add (k * 5)).block, (ad.add (k * 5)).off + 2, none⟩ = some (.int .i64 (xs.getD k z111).f2) ∧ w.cell? ⟨(ad.add (k * 5)).block, (ad.add (k * 5)).off + 3, none⟩ = some (.int .i64 (xs.getD k z111).f3) ∧ w.cell? ⟨(ad.add (k * 5)).block, (ad.add (k * 5)).off + 4, none⟩ = some (.int .i64 (xs.getD k z111).f4) := at_T111 h k (by omega) (by omega)
theorem T79_at {xs : List S79} (h : Kd.C k79 w A n xs) (k : Nat) (hk : k < n) : ∃ ad A0 c0, A = some ad ∧ w.cell? (ad.add (k * 4)) = some (.slice A0 (xs.getD k z79).f0.length c0) ∧ w.cell? ⟨(ad.add (k * 4)).block, (ad.add (k * 4)).off + 1, none⟩ = some (.int .i64 (xs.getD k z79).f1) ∧ w.cell? ⟨(ad.add (k * 4)).block, (ad.add (k * 4)).off + 2, none⟩ = some (.int .i64 (xs.getD k z79).f2) ∧ w.cell? ⟨(ad.add (k * 4)).block, (ad.add (k * 4)).off + 3, none⟩ = some (.int .i64 (xs.getD k z79).f3) ∧ (xs.getD k z79).f0.length ≤ c0 ∧ k111.C w A0 (xs.getD k z79).f0.length (xs.getD k z79).f0 := at_T79 h k (by omega) (by omega)
theorem T127_at {xs : List S127} (h : Kd.C k127 w A n xs) (k : Nat) (hk : k < n) : ∃ ad A2 c2 A3 c3 A4 c4, A = some ad ∧ w.cell? (ad.add (k * 5)) = some (.int .i64 (xs.getD k z127).f0) ∧ w.cell? ⟨(ad.add (k * 5)).block, (ad.add (k * 5)).off + 1, none⟩ = some (.int .i64 (xs.getD k z127).f1) ∧ w.cell? ⟨(ad.add (k * 5)).block, (ad.add (k * 5)).off + 2, none⟩ = some (.slice A2 (xs.getD k z127).f2.length c2) ∧ w.cell? ⟨(ad.add (k * 5)).block, (ad.add (k * 5)).off + 3, none⟩ = some (.slice A3 (xs.getD k z127).f3.length c3) ∧ w.cell? ⟨(ad.add (k * 5)).block, (ad.add (k * 5)).off + 4, none⟩ = some (.slice A4 (xs.getD k z127).f4.length c4) ∧ (xs.getD k z127).f2.length ≤ c2 ∧ k111.C w A2 (xs.getD k z127).f2.length (xs.getD k z127).f2 ∧ (xs.getD k z127).f3.length ≤ c3 ∧ k127.C w A3 (xs.getD k z127).f3.length (xs.getD k z127).f3 ∧ (xs.getD k z127).f4.length ≤ c4 ∧ k127.C w A4 (xs.getD k z127).f4.length (xs.getD k z127).f4 := at_T127 h k (by omega) (by omega)
theorem L7_at {xs : List (List S127)} (h : Kd.C (Kd.slice 127 k127) w A n xs) (k : Nat) (hk : k < n) : ∃ ad A0 c0, A = some ad ∧ w.cell? (ad.add k) = some (.slice A0 (xs.getD k []).length c0) ∧ (xs.getD k []).length ≤ c0 ∧ k127.C w A0 (xs.getD k []).length (xs.getD k []) := at_L7 h k (by omega) (by omega)
end
theorem two_rows {w : World} {g : Nat} {xs ys : List S127} {A B : Option Addr} {c d : Nat} (h1 : w.cell? ⟨g, 0, none⟩ = some (.slice A xs.length c)) (h2 : w.cell? ⟨g, 1, none⟩ = some (.slice B ys.length d))
    (k1 : xs.length ≤ c) (k2 : ys.length ≤ d) (r1 : k127.C w A xs.length xs) (r2 : k127.C w B ys.length ys) : Kd.C (Kd.slice 127 k127) w (some ⟨g, 0, none⟩) 2 [xs, ys] := by
  refine ⟨rfl, by omega, fun _ => ⟨_, rfl, fun j p hp => ?_⟩⟩
  match j, hp with
  | 0, hp => 
    obtain rfl : xs = p := by simpa using hp
    exact ⟨[.slice A xs.length c], rfl, ⟨A, c, rfl, k1, r1⟩, fun i u hu => by
      match i, hu with
      | 0, hu => obtain rfl : Value.slice A xs.length c = u := by simpa using hu
                 exact h1
      | i + 1, hu => simp at hu⟩
  | 1, hp =>
    obtain rfl : ys = p := by simpa using hp
    exact ⟨[.slice B ys.length d], rfl, ⟨B, d, rfl, k2, r2⟩, fun i u hu => by
      match i, hu with
      | 0, hu => obtain rfl : Value.slice B ys.length d = u := by simpa using hu
                 exact h2
      | i + 1, hu => simp at hu⟩
  | j + 2, hp => simp at hp
theorem one_int {w : World} {g : Nat} {x : Int} (h0 : w.cell? ⟨g, 0, none⟩ = some (.int .i64 x)) : Kd.C (Kd.int .i64) w (some ⟨g, 0, none⟩) 1 [x] := by
  refine ⟨rfl, by omega, fun _ => ⟨_, rfl, fun j p hp => ?_⟩⟩
  match j, hp with
  | 0, hp =>
    obtain rfl : x = p := by simpa using hp
    exact ⟨[.int .i64 x], rfl, rfl, fun i u hu => by
      match i, hu with
      | 0, hu => obtain rfl : _ = u := by simpa using hu
                 exact h0
      | i + 1, hu => simp at hu⟩
  | j + 1, hp => simp at hp
end Go.Proofs.Ytaicamjpcnhjcaa.PA
namespace Go.Proofs.Ytaicamjpcnhjcaa.PA
open Go.RowKit Go.Proofs.YtaicamjpcnhjcaaW.PrintWords Go.Proofs.YtaicamjpcnhjcaaW.PrintLast Go.Proofs.YtaicamjpcnhjcaaW.PrintMore
set_option linter.unusedVariables false
set_option linter.unusedSimpArgs false
def insB (v i : Int) : Bool := decide (0 ≤ i) && decide (i < v)
set_option maxHeartbeats 400000 in
theorem block_step_1.calls (i v : Int) (p : Addr) (w : World) (hp : w.cell? p = some (.int .i64 v)) :
    Calls Try.prog 176 #[.int .i64 i, .pointer (some p)] w fun e w' => e = .returned (.bool (insB v i)) ∧ w = w' := by
  by_cases h : 0 ≤ i
  all_goals
    go_enter Try.func176, Try.ntmps176
    go_wp2
    go_ret
    exact ⟨by simp [insB, h] <;> omega, rfl⟩
def stepE (v op c a b x : Int) : Int :=
  if op < 1 ∨ op > 6 then 6
  else if op = 1 ∧ (x < 0 ∨ x > 255) ∨ op = 2 ∧ insB v x = false then 4
  else if insB v c = false ∨ op > 2 ∧ (insB v a = false ∨ insB v b = false) then 2
  else 0
def block_step.f (a0 a1_0 a1_1 a1_2 a1_3 a1_4 : Int) : Option Int := some (stepE a0 a1_0 a1_1 a1_2 a1_3 a1_4)
set_option maxHeartbeats 4000000 in
theorem block_step.calls (a0 a1_0 a1_1 a1_2 a1_3 a1_4 : Int) (r : Int) (w : World) (h : block_step.f a0 a1_0 a1_1 a1_2 a1_3 a1_4 = some r) :
    Calls Try.prog 150 #[.int .i64 a0, .agg #[.int .i64 a1_0, .int .i64 a1_1, .int .i64 a1_2, .int .i64 a1_3, .int .i64 a1_4]] w fun e w' => e = .returned (.int .i64 r) ∧ Below w.heap.size w w' := by
  have H := Aside0.mk h
  clear h
  have hmf : ∀ (fn : Fn) (first cap : Array Value) (w : World), (Instr.makeFunc fn first cap).run Try.prog w = .ok (.func fn first cap) w := fun _ _ _ _ => rfl
  go_enter Try.func150, Try.ntmps150
  go_wp2_with (go_at_call 176; refine (block_step_1.calls _ a0 _ _ (by simp [go_sem])).mono ?_; rintro e w' ⟨rfl, rfl⟩)
  all_goals
    go_ret
    refine ⟨ret_int ?_, ?_⟩
    · have h := H.out
      clear H hmf
      simp only [block_step.f, stepE, Option.some.injEq] at h
      grind
    · exact ((Below.refl _ _).alloc (Nat.le_refl _) _).alloc (by simp) _
end Go.Proofs.Ytaicamjpcnhjcaa.PA
namespace Go.Proofs.Ytaicamjpcnhjcaa.PA
open Go.RowKit Go.Proofs.YtaicamjpcnhjcaaW.PrintWords Go.Proofs.YtaicamjpcnhjcaaW.PrintLast Go.Proofs.YtaicamjpcnhjcaaW.PrintMore
set_option linter.unusedVariables false
set_option linter.unusedSimpArgs false
def manyOf : List S79 → Int → Int
  | [], m => m
  | b :: t, m => manyOf t (wrap64 (m + b.f0.length))
def stepsErr (v : Int) : List S111 → Int
  | [] => 0
  | s :: t => if stepE v s.f0 s.f1 s.f2 s.f3 s.f4 ≠ 0 then stepE v s.f0 s.f1 s.f2 s.f3 s.f4 else stepsErr v t
def blockErr (v n : Int) (b : S79) : Int :=
  if stepsErr v b.f0 ≠ 0 then stepsErr v b.f0
  else if b.f1 < -1 ∨ b.f1 ≥ v then 2
  else if insB n b.f2 = false ∧ (b.f2 ≠ -1 ∨ b.f1 ≥ 0) ∨ b.f1 ≥ 0 ∧ insB n b.f3 = false then 3 else 0
def blocksErr (v n : Int) : List S79 → Int
  | [] => 0
  | b :: t => if blockErr v n b ≠ 0 then blockErr v n b else blocksErr v n t
def blockCheck (v : Int) (l : List S79) : Int :=
  if v < 1 ∨ v > 6 ∨ l.length < 1 ∨ l.length > 8 ∨ manyOf l 0 > 20 then 1 else blocksErr v l.length l
def block_Check.f (a0 : Int) (l1 : List S79) : Option Int := some (blockCheck a0 l1)
theorem stepsErr_at (v : Int) {l : List S111} {j : Nat} (h : j < l.length) : stepsErr v (l.drop j) = if stepE v (l.getD j z111).f0 (l.getD j z111).f1 (l.getD j z111).f2 (l.getD j z111).f3 (l.getD j z111).f4 ≠ 0 then stepE v (l.getD j z111).f0 (l.getD j z111).f1 (l.getD j z111).f2 (l.getD j z111).f3 (l.getD j z111).f4 else stepsErr v (l.drop (j + 1)) := by
  rw [drop_at z111 h]; rfl
theorem blocksErr_at (v n : Int) {l : List S79} {j : Nat} (h : j < l.length) : blocksErr v n (l.drop j) = if blockErr v n (l.getD j z79) ≠ 0 then blockErr v n (l.getD j z79) else blocksErr v n (l.drop (j + 1)) := by
  rw [drop_at z79 h]; rfl
set_option maxHeartbeats 400000 in
theorem block_Check_1.calls (i : Int) (A : Option Addr) (n c : Nat) (p : Addr) (w : World) (hp : w.cell? p = some (.slice A n c)) :
    Calls Try.prog 151 #[.int .i64 i, .pointer (some p)] w fun e w' => e = .returned (.bool (insB n i)) ∧ w = w' := by
  by_cases h : 0 ≤ i
  all_goals
    go_enter Try.func151, Try.ntmps151
    go_wp2
    go_ret
    exact ⟨by simp [insB, h] <;> omega, rfl⟩
set_option maxRecDepth 100000 in
set_option maxHeartbeats 4000000 in
theorem block_Check.calls (a0 : Int) (A1 : Option Addr) (c1 : Nat) (l1 : List S79) (r : Int) (w : World) (hr1 : Kd.C k79 w A1 l1.length l1) (hc1 : l1.length ≤ c1) (h : block_Check.f a0 l1 = some r) :
    Calls Try.prog 76 #[.int .i64 a0, .slice A1 l1.length c1] w fun e w' => e = .returned (.int .i64 r) ∧ Below w.heap.size w w' := by
  have HR := Aside0.mk hr1
  have H := Aside0.mk h
  have hl := hr1.2.1
  clear h hr1
  have hmf : ∀ (fn : Fn) (first cap : Array Value) (w : World), (Instr.makeFunc fn first cap).run Try.prog w = .ok (.func fn first cap) w := fun _ _ _ _ => rfl
  go_enter Try.func76, Try.ntmps76
  go_wp2_with fail
  go_loopw [5, 16] (fun m i wr => ∃ k : Nat, k ≤ l1.length ∧ i = .int .i64 k ∧ (∃ z : Int, m = .int .i64 z ∧ manyOf (l1.drop k) z = manyOf l1 0) ∧ Below (w.heap.size + 1) (w.alloc (.cells #[.slice A1 l1.length c1] 24)) wr) (fun _ i _ => l1.length - (intOf i).toNat)
  case atStart => exact ⟨0, Nat.zero_le _, rfl, ⟨0, rfl, rfl⟩, Below.refl _ _⟩
  case round =>
    obtain ⟨k, hk, rfl, ⟨z, rfl, hz⟩, hb⟩ := hrel
    have hbw : Below w.heap.size w wr := ((Below.refl _ _).alloc (Nat.le_refl _) _).trans (hb.mono (Nat.le_succ _))
    have hC := Aside0.mk (Kd.C_below HR.out hbw)
    have Hz := Aside0.mk hz
    have Hb := Aside0.mk hb
    have Hbw := Aside0.mk hbw
    clear hz hb hbw
    by_cases hlt : k < l1.length
    · obtain ⟨ad, A0, c0, e0, h0, h1, h2, h3, hl0, hC0⟩ := T79_at hC.out k hlt
      cases e0
      have HC0 := Aside0.mk hC0
      have Hl0 := Aside0.mk hl0
      clear hC0 hl0
      go_wp2
      go_roundw
      case rel => exact ⟨k + 1, by omega, by go_num, ⟨_, rfl, by have h := Hz.out; rw [drop_at z79 hlt] at h; simpa [manyOf, hlt] using h⟩, by have := Hb.out; exact this.alloc (by simpa using this.size) _⟩
      case measure => simp [intOf]; omega
    · have hz : z = manyOf l1 0 := by have h := Hz.out; rw [List.drop_of_length_le (by omega)] at h; exact h
      have hbx := box_cell Hb.out
      clear Hz
      by_cases hcond : a0 < 1 ∨ a0 > 6 ∨ l1.length < 1 ∨ l1.length > 8 ∨ z > 20
      · have hr : r = 1 := by have h := H.out; subst hz; simp only [block_Check.f, blockCheck, if_pos hcond, Option.some.injEq] at h; exact h.symm
        clear H hC hz
        go_wp2
        all_goals
          go_ret
          refine ⟨ret_int ?_, Hbw.out⟩
          omega
      · have hr : blocksErr a0 l1.length (l1.drop 0) = r := by have h := H.out; subst hz; simp only [block_Check.f, blockCheck, if_neg hcond, Option.some.injEq] at h; exact h
        have HE := Aside0.mk hr
        have hc : 1 ≤ a0 ∧ a0 ≤ 6 ∧ (1 : Int) ≤ l1.length ∧ (l1.length : Int) ≤ 8 ∧ z ≤ 20 := by omega
        obtain ⟨q1, q2, q3, q4, q5⟩ := hc
        clear H hC hz hr hcond
        go_wp2
        obtain ⟨wo, ho⟩ : ∃ wo : World, wo = wr := ⟨_, rfl⟩
        subst ho
        go_loopw [48] (fun i wr => ∃ k : Nat, k ≤ l1.length ∧ i = .int .i64 k ∧ Aside0 (blocksErr a0 l1.length (l1.drop k) = r) ∧ Aside0 (Below (w.heap.size + 1) (w.alloc (.cells #[.slice A1 l1.length c1] 24)) wr)) (fun i _ => l1.length - (intOf i).toNat)
        case atStart => exact ⟨0, by omega, rfl, HE, Hb⟩
        case round =>
          clear Hb Hbw HE hbx
          obtain ⟨k, hk, rfl, HE, Hb⟩ := hrel
          have Hbw : Aside0 (Below w.heap.size w wr) := ⟨((Below.refl _ _).alloc (Nat.le_refl _) _).trans (Hb.out.mono (Nat.le_succ _))⟩
          have hbx := box_cell Hb.out
          by_cases hlt : k < l1.length
          · obtain ⟨ad, A0, c0, e0, h0, h1, h2, h3, hl0, hC0⟩ := T79_at (Kd.C_below HR.out Hbw.out) k hlt
            cases e0
            have hE := HE.out
            rw [blocksErr_at _ _ hlt] at hE
            generalize l1.getD k z79 = b at h0 h1 h2 h3 hl0 hC0 hE
            have hn0 := hC0.2.1
            have HC0 := Aside0.mk hC0
            replace HE := Aside0.mk hE
            clear hC0 hl0 hE
            go_wp2
            obtain ⟨wo, ho⟩ : ∃ wo : World, wo = wr := ⟨_, rfl⟩
            subst ho
            go_loopw [55] (fun i w' => ∃ j : Nat, j ≤ b.f0.length ∧ i = .int .i64 j ∧ Aside0 (stepsErr a0 (b.f0.drop j) = stepsErr a0 b.f0) ∧ Aside0 (Below (wo.heap.size + 1) (wo.alloc (.cells #[.slice A0 b.f0.length c0, .int .i64 b.f1, .int .i64 b.f2, .int .i64 b.f3] 79)) w')) (fun i _ => b.f0.length - (intOf i).toNat)
            case atStart => exact ⟨0, by omega, rfl, ⟨rfl⟩, ⟨Below.refl _ _⟩⟩
            case round =>
              obtain ⟨j, hj, rfl, HS, Hb2⟩ := hrel
              have Hbo := Aside0.mk (below_box Hb2.out)
              clear hbx h0 h1 h2 h3
              by_cases hjt : j < b.f0.length
              · obtain ⟨ad2, e2, g0, g1, g2, g3, g4⟩ := T111_at (Kd.C_below HC0.out Hbo.out) j hjt
                cases e2
                have hS := HS.out
                rw [stepsErr_at _ hjt] at hS
                generalize b.f0.getD j z111 = s at g0 g1 g2 g3 g4 hS
                by_cases hs : stepE a0 s.f0 s.f1 s.f2 s.f3 s.f4 = 0
                · rw [if_neg (by simpa using hs)] at hS
                  have hsb : (stepE a0 s.f0 s.f1 s.f2 s.f3 s.f4 != 0) = false := by simp [hs]
                  replace HS := Aside0.mk hS
                  clear hs hS
                  go_wp2_with (go_at_call 150; refine (block_step.calls _ _ _ _ _ _ _ _ rfl).mono ?_; rintro e w2 ⟨rfl, hb2⟩)
                  go_roundw
                  case rel => exact ⟨j + 1, by omega, by go_num, HS, ⟨below_alloc_then Hb2.out (box_size Hb2.out) hb2 (by have := box_size Hb2.out; simp; omega)⟩⟩
                  case measure => simp [intOf]; omega
                · rw [if_pos hs] at hS
                  have hsb : (stepE a0 s.f0 s.f1 s.f2 s.f3 s.f4 != 0) = true := by simp [hs]
                  have hr : stepE a0 s.f0 s.f1 s.f2 s.f3 s.f4 = r := by
                    have h := HE.out
                    unfold blockErr at h
                    rw [← hS] at h
                    simpa [hs] using h
                  have HR2 := Aside0.mk hr
                  clear hs hS hr
                  go_wp2_with (go_at_call 150; refine (block_step.calls _ _ _ _ _ _ _ _ rfl).mono ?_; rintro e w2 ⟨rfl, hb2⟩)
                  go_ret
                  exact ⟨ret_int HR2.out, Hbw.out.trans (below_alloc_then (below_box Hb2.out) (below_box Hb2.out).size hb2 (by have := box_size Hb2.out; simp; omega) |>.mono Hbw.out.size)⟩
              · have g1 := box_cells Hb2.out 1 rfl
                have g2 := box_cells Hb2.out 2 rfl
                have g3 := box_cells Hb2.out 3 rfl
                have gp : wr.cell? ⟨w.heap.size, 0, none⟩ = some (.slice (some ad) l1.length c1) := box_cell (Hb.out.trans (Hbo.out.mono (box_size Hb.out)))
                have HS0 : Aside0 (stepsErr a0 b.f0 = 0) := ⟨by have h := HS.out; rw [List.drop_of_length_le (by omega)] at h; exact h.symm⟩
                clear HS
                go_wp2_with (go_at_call 151; refine (block_Check_1.calls _ _ _ _ _ _ gp).mono ?_; rintro e w2 ⟨rfl, rfl⟩)
                all_goals
                  have hE := HE.out
                  simp only [blockErr, HS0.out] at hE
                  clear HE HS0 hmf
                  first
                  | (go_ret; refine ⟨ret_int ?_, Hbo.out.mono Hbw.out.size |> Hbw.out.trans⟩; grind)
                  | (go_roundw
                     case rel => exact ⟨k + 1, by omega, by go_num, ⟨by grind⟩, ⟨Hb.out.trans (Hbo.out.mono (box_size Hb.out))⟩⟩
                     case measure => simp [intOf]; omega)
          · have hr : r = 0 := by have h := HE.out; rw [List.drop_of_length_le (by omega)] at h; exact h.symm
            go_wp2
            go_ret
            exact ⟨ret_int hr.symm, Hbw.out⟩
end Go.Proofs.Ytaicamjpcnhjcaa.PA
namespace Go.Proofs.Ytaicamjpcnhjcaa.PA
open Go.RowKit Go.Proofs.YtaicamjpcnhjcaaW.PrintWords Go.Proofs.YtaicamjpcnhjcaaW.PrintLast Go.Proofs.YtaicamjpcnhjcaaW.PrintMore
set_option linter.unusedVariables false
set_option linter.unusedSimpArgs false
def shape_num.f (a0 : Int) (a1 : Int) : Option (Int × Int × (List (S111)) × (List (S127)) × (List (S127))) := some (1, 0, (([(⟨1, a0, 0, 0, a1⟩ : S111)] : List (S111))), ([] : List (S127)), ([] : List (S127)))
set_option maxHeartbeats 8000000 in
set_option maxRecDepth 100000 in
theorem shape_num.calls (a0 : Int) (a1 : Int) (r1 : Int) (r2 : Int) (r3 : List (S111)) (r4 : List (S127)) (r5 : List (S127)) (w : World) (h : shape_num.f a0 a1 = some (r1, r2, r3, r4, r5)) :
    Calls Try.prog 80 #[.int .i64 a0, .int .i64 a1] w fun e w' => ∃ v2_ v3_ v4_ : Value, e = .returned (.agg #[.int .i64 r1, .int .i64 r2, v2_, v3_, v4_]) ∧ Kd.R k111 111 w' w.heap.size (fun _ => True) v2_ r3 ∧ Kd.R k127 127 w' w.heap.size (fun k_ => some k_ ≠ (v2_ : Value).ownBlock ∧ some k_ ≠ (v4_ : Value).ownBlock) v3_ r4 ∧ Kd.R k127 127 w' w.heap.size (fun k_ => some k_ ≠ (v2_ : Value).ownBlock ∧ some k_ ≠ (v3_ : Value).ownBlock) v4_ r5 ∧ Below w.heap.size w w' := by
  have hu127 := Try.underlying127
  have hu111 := Try.underlying111
  have HB := Aside0.mk (Below.refl w.heap.size w)
  have H : (some (1, 0, (([(⟨1, a0, 0, 0, a1⟩ : S111)] : List (S111))), ([] : List (S127)), ([] : List (S127)))) = some (r1, r2, r3, r4, r5) := h
  clear h
  obtain ⟨y277, hy277⟩ : ∃ y_ : List (S111), y_ = (([(⟨1, a0, 0, 0, a1⟩ : S111)] : List (S111))) := ⟨_, rfl⟩
  replace H : (some (1, 0, y277, ([] : List (S127)), ([] : List (S127)))) = some (r1, r2, r3, r4, r5) := by first | (rw [hy277]; with_reducible exact H) | (have H2_ := (Option.bind_some _ _).symm.trans H; rw [hy277]; with_reducible exact H2_) | (have H2_ := (Option.bind_some _ _).symm.trans H; with_reducible exact H2_) | with_reducible exact H | (rw [hy277]; exact H) | exact H
  have Ny277 := Aside0.mk hy277
  clear hy277
  simp only [Option.some.injEq, Prod.mk.injEq] at H
  obtain ⟨rfl, rfl, rfl, rfl, rfl⟩ := H
  go_enter Try.func80, Try.ntmps80
  go_wp2_with (first | ((with_reducible refine gate_dst (N := 4) rfl ?_); refine box_event ?hg (N := 4) ?hd (cs := #[.int .i64 0, .int .i64 0, .slice none 0 0, .slice none 0 0, .slice none 0 0]) (t := 127) ?hr ?_; (case hd => rfl); (case hg => rfl); (case hr => first | (go_simp; done) | (go_simp; rfl)); intro gb276 hg w3 hbox hb; have n0_ := Aside0.mk (below_step (by repeat (first | (with_reducible first | exact HB.out | apply below_alloc | apply pw_below_drewN | apply below_drew1) | exact HB.out)) hb); have n1_ := Aside0.mk (hbox); have n2_ := Aside0.mk ((by rw [hg]; exact (below_size (by repeat (first | (with_reducible first | exact HB.out | apply below_alloc | apply pw_below_drewN | apply below_drew1) | exact HB.out))) : w.heap.size ≤ gb276)); have n3_ := Aside0.mk ((by rw [hg]; exact (below_size (by repeat (first | (with_reducible first | exact HB.out | apply below_alloc | apply pw_below_drewN | apply below_drew1) | exact HB.out))) : w.heap.size ≤ gb276)); clear HB; have HB := n0_; have BK276 := n1_; have GW276 := n2_; have GE276 := n3_; clear n0_ n1_ n2_ n3_; clear hb hbox hg) | ((with_reducible refine gate_dst (N := 8) rfl ?_); refine Kd.R_lit k111 _ 111 ?hg (N := 8) ?hd (xs := ([(⟨1, a0, 0, 0, a1⟩ : S111)] : List (S111))) (inner := [.int .i64 1, .int .i64 a0, .int .i64 0, .int .i64 0, .int .i64 a1]) (ok := fun _ => True) (okp := fun _ => True) ?hr ?hp (fun _ hk => hk) trivial (Below.refl _ _) (Nat.le_refl _) (by simp) ?_; (case hd => rfl); (case hg => rfl); (case hr => first | (go_simp; done) | (go_simp; rfl)); (case hp => exact (Reps.c5 (show Kd.M k111 _ _ _ (⟨1, a0, 0, 0, a1⟩ : S111) [.int .i64 1, .int .i64 a0, .int .i64 0, .int .i64 0, .int .i64 a1] from (k111_mkM _ _ _ (⟨1, a0, 0, 0, a1⟩ : S111) )) (Reps.none _ _))); intro v278 w4 ho5 hb hg_ hnew_; clear hg_ hnew_; (first | rw [← Ny277.out] at ho5 | (simp only [Int.reduceToNat] at ho5; rw [← Ny277.out] at ho5)); have n0_ := Aside0.mk (Kd.R_lower ho5 (below_size (by repeat (first | (with_reducible first | exact HB.out | apply below_alloc | apply pw_below_drewN | apply below_drew1 | refine below_set ?_ GE276.out) | exact HB.out)))); have n1_ := Aside0.mk (blk_below (g := gb276) (o := .cells #[.int .i64 0, .int .i64 0, .slice none 0 0, .slice none 0 0, .slice none 0 0] 127 (0, 0)) (by (with_reducible repeat (first | refine blk_drewN ?_ _ | refine blk_drew ?_ | refine blk_alloc ?_ _)); exact BK276.out) hb); have n2_ := Aside0.mk (below_step (by repeat (first | (with_reducible first | exact HB.out | apply below_alloc | apply pw_below_drewN | apply below_drew1 | refine below_set ?_ GE276.out) | exact HB.out)) hb); clear BK276; clear HB; have HO279 := n0_; have BK276 := n1_; have HB := n2_; clear n0_ n1_ n2_; clear hb ho5; obtain ⟨Ao6, co6, eo6⟩ := Kd.R_slice HO279.out; subst eo6; have hcz7_0 : w4.cell? ⟨gb276, 0, none⟩ = some (.int .i64 0) := (blk_cell BK276.out 0).trans rfl; have hcz7_1 : w4.cell? ⟨gb276, 1, none⟩ = some (.int .i64 0) := (blk_cell BK276.out 1).trans rfl; have hcz7_2 : w4.cell? ⟨gb276, 2, none⟩ = some (.slice none 0 0) := (blk_cell BK276.out 2).trans rfl; have hcz7_3 : w4.cell? ⟨gb276, 3, none⟩ = some (.slice none 0 0) := (blk_cell BK276.out 3).trans rfl; have hcz7_4 : w4.cell? ⟨gb276, 4, none⟩ = some (.slice none 0 0) := (blk_cell BK276.out 4).trans rfl; have hfz7_0 := blk_frozen BK276.out 0; have hfz7_1 := blk_frozen BK276.out 1; have hfz7_2 := blk_frozen BK276.out 2; have hfz7_3 := blk_frozen BK276.out 3; have hfz7_4 := blk_frozen BK276.out 4))
  refine bodyPost_ret (results_cell_row rfl _ _ gb276 127 #[.int .i64 1, .int .i64 0, .slice Ao6 y277.length co6, .slice none 0 0, .slice none 0 0] (0, 0) _ rfl (by (with_reducible repeat (first | refine blk_drewN ?_ _ | refine blk_drew ?_ | refine blk_alloc ?_ _)); refine blk_put (cs := #[.int .i64 1, .int .i64 0, .slice Ao6 y277.length co6, .slice none 0 0, .slice none 0 0]) ?_ 4 _ rfl; (with_reducible repeat (first | refine blk_drewN ?_ _ | refine blk_drew ?_ | refine blk_alloc ?_ _)); refine blk_put (cs := #[.int .i64 1, .int .i64 0, .slice Ao6 y277.length co6, .slice none 0 0, .slice none 0 0]) ?_ 3 _ rfl; (with_reducible repeat (first | refine blk_drewN ?_ _ | refine blk_drew ?_ | refine blk_alloc ?_ _)); refine blk_put (cs := #[.int .i64 1, .int .i64 0, .slice none 0 0, .slice none 0 0, .slice none 0 0]) ?_ 2 _ rfl; (with_reducible repeat (first | refine blk_drewN ?_ _ | refine blk_drew ?_ | refine blk_alloc ?_ _)); refine blk_put (cs := #[.int .i64 1, .int .i64 0, .slice none 0 0, .slice none 0 0, .slice none 0 0]) ?_ 1 _ rfl; (with_reducible repeat (first | refine blk_drewN ?_ _ | refine blk_drew ?_ | refine blk_alloc ?_ _)); refine blk_put (cs := #[.int .i64 0, .int .i64 0, .slice none 0 0, .slice none 0 0, .slice none 0 0]) ?_ 0 _ rfl; (with_reducible repeat (first | refine blk_drewN ?_ _ | refine blk_drew ?_ | refine blk_alloc ?_ _)); exact BK276.out) Try.underlying127 rfl (by kernel_rfl)) rfl ?_
  exact ⟨_, _, _, by first | rfl | (simp [errW_none, errW_some] <;> rfl) | (simp [*, errW_none, errW_some] <;> rfl), by (with_reducible repeat (first | apply Kd.R_alloc | apply Kd.R_drewN | apply Kd.R_drew)); exact Kd.R_mono (Kd.R_far (p := ⟨gb276, 4, none⟩) (Kd.R_far (p := ⟨gb276, 3, none⟩) (Kd.R_far (p := ⟨gb276, 2, none⟩) (Kd.R_far (p := ⟨gb276, 1, none⟩) (Kd.R_far (p := ⟨gb276, 0, none⟩) (Kd.R_types HO279.out BK276.out (by decide)) (fun _ hk => hk.2) (.int .i64 1)) (fun _ hk => hk.2) (.int .i64 0)) (fun _ hk => hk.2) (.slice Ao6 y277.length co6)) (fun _ hk => hk.2) (.slice none 0 0)) (fun _ hk => hk.2) (.slice none 0 0)) (fun _ hk => trivial), by first | exact Kd.R_nil _ _ _ _ _ | exact Kd.N_nil _ _ _ _ _ | exact Kd.V_nil _ _ _ _ _ | exact Kd.Q_nil _ _ _ _ _ | exact Kd.S_nil _ _ _ _ _, by first | exact Kd.R_nil _ _ _ _ _ | exact Kd.N_nil _ _ _ _ _ | exact Kd.V_nil _ _ _ _ _ | exact Kd.Q_nil _ _ _ _ _ | exact Kd.S_nil _ _ _ _ _, by repeat (first | (with_reducible first | exact HB.out | apply below_alloc | apply pw_below_drewN | apply below_drew1 | refine below_set ?_ GE276.out) | exact HB.out)⟩
end Go.Proofs.Ytaicamjpcnhjcaa.PA
namespace Go.Proofs.Ytaicamjpcnhjcaa.PA
open Go.RowKit Go.Proofs.YtaicamjpcnhjcaaW.PrintWords Go.Proofs.YtaicamjpcnhjcaaW.PrintLast Go.Proofs.YtaicamjpcnhjcaaW.PrintMore
set_option linter.unusedVariables false
set_option linter.unusedSimpArgs false
def numS (v x : Int) : S127 := ⟨1, 0, [⟨1, v, 0, 0, x⟩], [], []⟩
def ownS (v : Int) (b : S79) : List S127 := [⟨1, 0, b.f0, [], []⟩] ++ [if b.f1 < 0 then numS v (b.f2 + 1) else ⟨2, b.f1, [], [numS v (b.f2 + 1)], [numS v (b.f3 + 1)]⟩]
def isS (v i : Int) : S127 := ⟨1, 0, [⟨1, v + 1, 0, 0, i + 2⟩, ⟨6, v + 1, v, v + 1, 0⟩], [], []⟩
def allS (v : Int) : Int → List S79 → List S127
  | _, [] => []
  | i, b :: t => [isS v i, ⟨2, v + 1, [], ownS v b, allS v (i + 1) t⟩]
def endS (v : Int) : S127 := ⟨1, 0, [⟨2, v + 1, 0, 0, v⟩], [], []⟩
def buildS (v : Int) (l : List S79) : List S127 := [numS v 1, numS (v + 1) 1, ⟨3, v + 1, [], allS v 0 l ++ [endS v], []⟩]
def shape_Build.f (a0 : Int) (l1 : List S79) : Option (List S127 × Int) :=
  if (∀ b ∈ l1, b.f0.length * 40 ≤ 140737488351232) then some (if blockCheck a0 l1 ≠ 0 then ([], blockCheck a0 l1) else if a0 > 4 then ([], 1) else (buildS a0 l1, 0)) else none
theorem allS_at (v : Int) {l : List S79} {j : Nat} (h : j < l.length) : allS v j (l.drop j) = [isS v j, ⟨2, v + 1, [], ownS v (rd_T79 l j), allS v ((j : Int) + 1) (l.drop (j + 1))⟩] := by
  rw [drop_at z79 h]; rfl
structure BSt (wr W : World) (g : Nat) (bx : Array Value) (vo : Value) (lo : List S127) : Prop where
  box : W.heap[g]? = some (.cells bx 79 (0, 0))
  own : k127.R 127 W wr.heap.size (fun _ => True) vo lo
  below : Below wr.heap.size wr W
section
variable {wr W W1 : World} {g : Nat} {bx : Array Value} {vo v1 : Value} {lo lo1 : List S127}
theorem below_none (h : W.grownBy W1 none) : Below W.heap.size W W1 := ⟨h.os, h.tape, h.output, h.size, fun i hi => h.block i hi (by simp)⟩
theorem R_slice1 {α : Type} {d : Kd α} {e base : Nat} {ok : Nat → Prop} {u : Value} {x : α} (h : d.R e W base ok u [x]) : ∃ A c, u = .slice A 1 c := Kd.R_slice h
theorem R_slice0 {α : Type} {d : Kd α} {e base : Nat} {ok : Nat → Prop} {u : Value} (h : d.R e W base ok u []) : ∃ A c, u = .slice A 0 c := Kd.R_slice h
theorem R_fresh {α : Type} {d : Kd α} {e base : Nat} {ok : Nat → Prop} {u : Value} {xs : List α} (h : d.R e W base ok u xs) : some W.heap.size ≠ u.ownBlock := fun e => by
  obtain ⟨inner, ho⟩ := Kd.R_own h
  exact absurd (own_lt ho _ e.symm) (Nat.lt_irrefl _)
theorem BSt.step (h : BSt wr W g bx vo lo) (hb : Below W.heap.size W W1) : BSt wr W1 g bx vo lo := ⟨(hb.block g (blk_lt h.box)).trans h.box, Kd.R_below h.own hb, below_step h.below hb⟩
theorem BSt.grown (h : BSt wr W g bx vo lo) (hr : k127.R 127 W1 wr.heap.size (fun _ => True) v1 lo1) (hb : Below wr.heap.size wr W1) (hg : W.grownBy W1 vo.ownBlock) : BSt wr W1 g bx v1 lo1 := ⟨blk_grown h.box hg (Kd.R_ne h.own h.box (by decide)), hr, hb⟩
theorem BSt.grownO {α : Type} {d : Kd α} {e base : Nat} {ok : Nat → Prop} {u : Value} {xs : List α} (h : BSt wr W g bx (.slice none 0 0) []) (hu : d.R e W base ok u xs) (he : e ≠ 79) (hb : Below wr.heap.size wr W1) (hg : W.grownBy W1 u.ownBlock) : BSt wr W1 g bx (.slice none 0 0) [] := ⟨blk_grown h.box hg (Kd.R_ne hu h.box he), Kd.R_nil _ _ _ _ _, hb⟩
theorem BSt.made (h : BSt wr W g bx (.slice none 0 0) []) (hg : W.grownBy W1 none) (hr : k127.R 127 W1 wr.heap.size (fun _ => True) v1 lo1) : BSt wr W1 g bx v1 lo1 := ⟨(h.step (below_none hg)).box, hr, (h.step (below_none hg)).below⟩
theorem BSt.fresh (h : BSt wr W g bx vo lo) : some W.heap.size ≠ vo.ownBlock := fun e => by
  obtain ⟨inner, ho⟩ := Kd.R_own h.own
  exact absurd (own_lt ho _ e.symm) (Nat.lt_irrefl _)
theorem BSt.num (h : BSt wr W g bx vo lo) {v x : Int} {p2 p3 p4 : Value} {ok3 ok4 : Nat → Prop} (h2 : k111.R 111 W1 W.heap.size (fun _ => True) p2 [⟨1, v, 0, 0, x⟩]) (h3 : k127.R 127 W1 W.heap.size ok3 p3 []) (h4 : k127.R 127 W1 W.heap.size ok4 p4 []) : k127.M W1 wr.heap.size (fun k => some k ≠ vo.ownBlock) (numS v x) [.int .i64 1, .int .i64 0, p2, p3, p4] := by
  obtain ⟨inner, ho⟩ := Kd.R_own h.own
  have hle := h.below.size
  have z : ∀ {α : Type} {d : Kd α} {e : Nat} {ok : Nat → Prop} {p : Value} {xs : List α}, d.R e W1 W.heap.size ok p xs → d.R e W1 wr.heap.size (fun k => some k ≠ vo.ownBlock) p xs := fun h => Kd.R_lower (Kd.R_mono (Kd.R_new h ho) (fun _ hk => hk.2)) hle
  exact k127_mkM _ _ _ (numS v x) (z h2) (z h3) (z h4)
end
theorem blocks_at {v n : Int} : ∀ {l : List S79} {j : Nat}, blocksErr v n l = 0 → j < l.length → blockErr v n (l.getD j z79) = 0
  | [], j, _, h => absurd h (by simp)
  | b :: t, j, h, hj => by
    rw [blocksErr] at h
    by_cases e : blockErr v n b ≠ 0
    · rw [if_pos e] at h; exact absurd h e
    · rw [if_neg e] at h
      cases j with
      | zero => exact by simpa using e
      | succ j => exact blocks_at (l := t) h (by simpa using hj)
theorem block_bounds {v n : Int} {b : S79} (h : blockErr v n b = 0) : stepsErr v b.f0 = 0 ∧ -1 ≤ b.f1 ∧ b.f1 < v ∧ (-1 ≤ b.f2 ∧ (b.f2 < n ∨ b.f2 = -1)) ∧ (0 ≤ b.f1 → (0 ≤ b.f2 ∧ b.f2 < n) ∧ 0 ≤ b.f3 ∧ b.f3 < n) := by
  unfold blockErr insB at h
  simp only [Bool.and_eq_false_iff, decide_eq_false_iff_not] at h
  split at h
  · exact absurd h (by assumption)
  · split at h
    · exact absurd h (by decide)
    · split at h
      · exact absurd h (by decide)
      · refine ⟨by simpa using ‹¬ _ ≠ (0 : Int)›, by omega, by omega, ⟨by omega, by omega⟩, fun _ => ⟨⟨by omega, by omega⟩, by omega, by omega⟩⟩
set_option maxRecDepth 100000 in
set_option maxHeartbeats 4000000 in
theorem shape_Build.calls (a0 : Int) (A1 : Option Addr) (c1 : Nat) (l1 : List S79) (r1 : List S127) (r2 : Int) (w : World) (hr1 : Kd.C k79 w A1 l1.length l1) (hc1 : l1.length ≤ c1) (h : shape_Build.f a0 l1 = some (r1, r2)) :
    Calls Try.prog 30 #[.int .i64 a0, .slice A1 l1.length c1] w fun e w' => ∃ v0_ : Value, e = .returned (.tuple #[v0_, .int .i64 r2]) ∧ Kd.R k127 127 w' w.heap.size (fun _ => True) v0_ r1 ∧ Below w.heap.size w w' := by
  have HR := Aside0.mk hr1
  have HC := Aside0.mk hc1
  clear hr1 hc1
  unfold shape_Build.f at h
  by_cases hlen : ∀ b ∈ l1, b.f0.length * 40 ≤ 140737488351232
  rotate_left
  · rw [if_neg hlen] at h
    cases h
  rw [if_pos hlen] at h
  have HLEN := Aside0.mk hlen
  clear hlen
  have E1 : Aside0 (block_Check.f a0 l1 = some (blockCheck a0 l1)) := ⟨rfl⟩
  by_cases c1 : blockCheck a0 l1 ≠ 0
  · rw [if_pos c1] at h
    obtain ⟨rfl, rfl⟩ : [] = r1 ∧ blockCheck a0 l1 = r2 := by simpa using h
    have cb : (blockCheck a0 l1 != 0) = true := bne_iff_ne.mpr c1
    clear h c1
    go_enter Try.func30, Try.ntmps30
    go_wp2_with (go_at_call 76; refine (block_Check.calls _ _ _ l1 _ _ HR.out HC.out E1.out).mono ?_; rintro e w2 ⟨rfl, hb2⟩)
    go_ret2
    exact ⟨_, rfl, Kd.R_nil _ _ _ _ _, hb2⟩
  · rw [if_neg c1] at h
    have cb : (blockCheck a0 l1 != 0) = false := by simpa using c1
    have B0 := c1
    by_cases c2 : a0 > 4
    · rw [if_pos c2] at h
      obtain ⟨rfl, rfl⟩ : [] = r1 ∧ 1 = r2 := by simpa using h
      have cb2 : decide (4 < a0) = true := decide_eq_true c2
      clear h c1 B0 c2
      go_enter Try.func30, Try.ntmps30
      go_wp2_with (go_at_call 76; refine (block_Check.calls _ _ _ l1 _ _ HR.out HC.out E1.out).mono ?_; rintro e w2 ⟨rfl, hb2⟩)
      go_ret2
      exact ⟨_, rfl, Kd.R_nil _ _ _ _ _, hb2⟩
    · rw [if_neg c2] at h
      obtain ⟨rfl, rfl⟩ : buildS a0 l1 = r1 ∧ 0 = r2 := by simpa using h
      have cb2 : decide (4 < a0) = false := decide_eq_false c2
      have hbd : 1 ≤ a0 ∧ a0 ≤ 4 ∧ 1 ≤ l1.length ∧ l1.length ≤ 8 := by
        unfold blockCheck at B0
        split at B0
        · exact absurd B0 (by decide)
        · omega
      obtain ⟨g1, g2, g3, g4⟩ := hbd
      clear h c1 c2
      go_enter Try.func30, Try.ntmps30
      go_wp2_with (go_at_call 76; refine (block_Check.calls _ _ _ l1 _ _ HR.out HC.out E1.out).mono ?_; rintro e w2 ⟨rfl, hb2⟩; have HB2 := Aside0.mk hb2; clear hb2)
      have HB0 : Aside0 (blocksErr a0 l1.length l1 = 0) := ⟨by
        unfold blockCheck at B0
        split at B0
        · exact absurd B0 (by decide)
        · simpa using B0⟩
      clear B0
      go_loopw [9, 10] (fun va i wr => ∃ (x : Int) (j : Nat), i = .int .i64 x ∧ Aside0 (x = (j : Int) - 1) ∧ j ≤ l1.length ∧ -1 ≤ x ∧ x < l1.length ∧ Aside0 (Below w.heap.size w wr) ∧ Aside0 (Kd.R k127 127 wr w.heap.size (fun _ => True) va (allS a0 j (l1.drop j)))) (fun _ i _ => (intOf i + 1).toNat)
      case atStart => exact ⟨(l1.length : Int) - 1, l1.length, rfl, ⟨rfl⟩, Nat.le_refl _, by omega, by omega, HB2, ⟨by rw [List.drop_length]; exact Kd.R_nil _ _ _ _ _⟩⟩
      case round =>
        obtain ⟨x, j, rfl, HX, hj, hx0, hx1, HB, HA⟩ := hrel
        by_cases hx : 0 ≤ x
        · have hxb : decide (0 ≤ x) = true := decide_eq_true hx
          obtain ⟨m, rfl⟩ : ∃ m, j = m + 1 := ⟨j - 1, by have := HX.out; omega⟩
          have hm : x.toNat = m := by have := HX.out; omega
          have hm1 : m < l1.length := by omega
          have HBK := Aside0.mk (block_bounds (blocks_at HB0.out hm1))
          have HLB := Aside0.mk (HLEN.out _ (by rw [List.getD_eq_getElem?_getD, List.getElem?_eq_getElem hm1]; exact List.getElem_mem hm1 : l1.getD m z79 ∈ l1))
          have HAT := Aside0.mk (allS_at a0 hm1)
          obtain ⟨ad, A0, k0, e0, h0, h1, h2, h3, hlc, hC⟩ := at_T79 (Kd.C_below HR.out HB.out) x hx hx1
          cases e0
          have HM := Aside0.mk hm
          have HRD : Aside0 (rd_T79 l1 x = l1.getD m z79) := ⟨by unfold rd_T79; rw [hm]⟩
          rw [← HRD.out] at HBK HLB
          have HAT2 : Aside0 (allS a0 ↑m (l1.drop m) = [isS a0 x, ⟨2, a0 + 1, [], ownS a0 (rd_T79 l1 x), allS a0 ↑(m + 1) (l1.drop (m + 1))⟩]) := ⟨by
            have e1 : rd_T79 l1 ↑m = rd_T79 l1 x := by rw [HRD.out]; rfl
            have e2 : (m : Int) = x := by omega
            rw [HAT.out, e1, e2, show ((m + 1 : Nat) : Int) = x + 1 by omega]⟩
          clear HAT
          generalize rd_T79 l1 x = b at *
          obtain ⟨b1, b2, b3, ⟨b4, b5⟩, b6⟩ := HBK.out
          have HB6 := Aside0.mk b6
          have HB1 := Aside0.mk b1
          have HCC := Aside0.mk hC
          have HCL := Aside0.mk hlc
          clear b1 b6 HBK hC hlc hm
          have hbw : Aside0 (BSt wr (wr.alloc (.cells #[.slice A0 b.f0.length k0, .int .i64 b.f1, .int .i64 b.f2, .int .i64 b.f3] 79)) wr.heap.size #[.slice A0 b.f0.length k0, .int .i64 b.f1, .int .i64 b.f2, .int .i64 b.f3] (.slice none 0 0) []) := ⟨⟨blk_new wr _, Kd.R_nil _ _ _ _ _, below_alloc (Below.refl _ _) _⟩⟩
          obtain ⟨Aa, ca, rfl⟩ := Kd.R_slice HA.out
          by_cases ht : b.f1 < 0
          · have htb : decide (b.f1 < 0) = true := decide_eq_true ht
            have HT := Aside0.mk ht
            have hb8 : b.f2 ≤ 8 := by omega
            clear ht
            go_wp2_with (first | ((with_reducible refine gate_dst (N := 36) rfl ?_); refine Kd.R_lit k111 (w0 := wr) wr.heap.size 111 ?hg (N := 36) ?hd (xs := ([] : List S111)) (inner := []) (ok := fun _ => True) (okp := fun _ => True) ?hr ?hp (fun _ hk => hk) trivial hbw.out.below hbw.out.below.size (by simp) ?_; (case hd => rfl); (case hg => rfl); (case hr => first | (go_simp; done) | (go_simp; rfl)); (case hp => exact (Reps.none _ _)); intro v36 w36 hr36 hb36 hg36 _; have HBW := Aside0.mk (hbw.out.step (below_none hg36)); have H36 := Aside0.mk hr36; clear hr36 hb36 hg36; have q0 : w36.cell? ⟨wr.heap.size, 0, none⟩ = some (.slice A0 b.f0.length k0) := (blk_cell HBW.out.box 0).trans rfl) | ((with_reducible refine gate_builtin (b := .append) (xs := #[.tmp 36, .tmp 38]) rfl ?_); at_builtin; refine Kd.R_append_rows k111 (Rr := k111.K w36) (w0 := wr) wr.heap.size rfl (.tmp 36) (.tmp 38) 77 111 (.agg #[.int .i64 0, .int .i64 0, .int .i64 0, .int .i64 0, .int .i64 0]) 40 rfl Try.underlying77 info111 rfl (by decide) (by decide) v36 [] b.f0 _ _ _ (fun _ => True) (fun _ => False) rfl rfl ?aO ?aR ?aM (fun _ h => h.elim) (fun _ _ => trivial) ?aB ?aS ?aL ?_; (case aR => exact Kd.C_below HCC.out HBW.out.below); (case aM => exact fun x cs h => by rw [k111_open h]; exact k111_mkM _ _ _ x); (case aB => exact HBW.out.below); (case aO => exact H36.out); (case aS => exact HBW.out.below.size); (case aL => have := HLB.out; simp only [List.length_nil]; omega); intro v39 w39 ho39 hb39 hg39 hat39; rw [List.nil_append] at ho39; obtain ⟨A39, c39, rfl⟩ := Kd.R_slice ho39; have HBX := Aside0.mk (HBW.out.grownO H36.out (by decide) hb39 hg39); have H39 := Aside0.mk ho39; clear ho39 hb39 hg39 hat39) | ((with_reducible refine gate_dst (N := 41) rfl ?_); refine Kd.R_lit k127 (w0 := wr) wr.heap.size 127 ?hg (N := 41) ?hd (xs := [(⟨1, 0, b.f0, [], []⟩ : S127)]) (inner := [.int .i64 1, .int .i64 0, .slice A39 b.f0.length c39, .slice none 0 0, .slice none 0 0]) (ok := fun _ => True) (okp := fun _ => True) ?hr ?hp (fun _ hk => hk) trivial HBX.out.below HBX.out.below.size (by simp) ?_; (case hd => rfl); (case hg => rfl); (case hr => first | (go_simp; done) | (go_simp; rfl)); (case hp => exact Reps.c5 (show Kd.M k127 _ _ _ (⟨1, 0, b.f0, [], []⟩ : S127) [.int .i64 1, .int .i64 0, .slice A39 b.f0.length c39, .slice none 0 0, .slice none 0 0] from k127_mkM _ _ _ (⟨1, 0, b.f0, [], []⟩ : S127) H39.out (Kd.R_nil _ _ _ _ _) (Kd.R_nil _ _ _ _ _)) (Reps.none _ _)); intro v41 w41 hr41 hb41 hg41 _; have HS := Aside0.mk (HBX.out.made hg41 hr41); clear hr41 hb41 hg41; have q1 : w41.cell? ⟨wr.heap.size, 1, none⟩ = some (.int .i64 b.f1) := (blk_cell HS.out.box 1).trans rfl; have q2 : w41.cell? ⟨wr.heap.size, 2, none⟩ = some (.int .i64 b.f2) := (blk_cell HS.out.box 2).trans rfl) | ((go_at_call 80); refine (shape_num.calls a0 (b.f2 + 1) 1 0 [⟨1, a0, 0, 0, b.f2 + 1⟩] [] [] _ rfl).mono ?_; rintro e w50 ⟨p2, p3, p4, rfl, hp2, hp3, hp4, hbp⟩; obtain ⟨Ap2, cp2, rfl⟩ := R_slice1 hp2; obtain ⟨Ap3, cp3, rfl⟩ := R_slice0 hp3; obtain ⟨Ap4, cp4, rfl⟩ := R_slice0 hp4; have M7 := Aside0.mk (HS.out.num (v := a0) (x := b.f2 + 1) hp2 hp3 hp4); have HS7 := Aside0.mk (HS.out.step hbp); clear hp2 hp3 hp4 hbp) | ((with_reducible refine gate_builtin (b := .append) (xs := #[.tmp 45, .tmp 51]) rfl ?_); at_builtin; refine Kd.R_append k127 (w0 := wr) wr.heap.size rfl (.tmp 45) (.tmp 51) 22 127 (.agg #[.int .i64 0, .int .i64 0, .slice none 0 0, .slice none 0 0, .slice none 0 0]) 88 rfl Try.underlying22 info127 rfl (by decide) (by decide) v41 [⟨1, 0, b.f0, [], []⟩] (numS a0 (b.f2 + 1)) [.int .i64 1, .int .i64 0, .slice Ap2 1 cp2, .slice Ap3 0 cp3, .slice Ap4 0 cp4] (fun _ => True) (fun k => some k ≠ v41.ownBlock) rfl (by simp [go_sem]) M7.out (fun _ hk => ⟨trivial, hk⟩) (fun _ _ => trivial) HS7.out.own HS7.out.below HS7.out.below.size (by simp) ?_; intro v70 w70 hr70 hb70 hg70 hat70; have HS70 := Aside0.mk (HS7.out.grown hr70 hb70 hg70); clear hr70 hb70 hg70 hat70; have HSo : Aside0 (BSt wr w70 wr.heap.size #[.slice A0 b.f0.length k0, .int .i64 b.f1, .int .i64 b.f2, .int .i64 b.f3] v70 (ownS a0 b)) := ⟨by have h := HS70.out; unfold ownS; rw [if_pos HT.out]; exact h⟩; clear HS70; obtain ⟨A70, c70, rfl⟩ := Kd.R_slice HSo.out.own) | ((with_reducible refine gate_dst (N := 79) rfl ?_); refine Kd.R_lit k111 (w0 := wr) wr.heap.size 111 ?hg (N := 79) ?hd (xs := [(⟨1, a0 + 1, 0, 0, x + 2⟩ : S111), ⟨6, a0 + 1, a0, a0 + 1, 0⟩]) (inner := [.int .i64 1, .int .i64 (a0 + 1), .int .i64 0, .int .i64 0, .int .i64 (x + 2), .int .i64 6, .int .i64 (a0 + 1), .int .i64 a0, .int .i64 (a0 + 1), .int .i64 0]) (ok := fun _ => True) (okp := fun _ => True) ?hr ?hp (fun _ hk => hk) trivial HSo.out.below HSo.out.below.size (by simp) ?_; (case hd => rfl); (case hg => rfl); (case hr => first | (go_simp; done) | (go_simp; rfl)); (case hp => exact Reps.c5 (show Kd.M k111 _ _ _ (⟨1, a0 + 1, 0, 0, x + 2⟩ : S111) [.int .i64 1, .int .i64 (a0 + 1), .int .i64 0, .int .i64 0, .int .i64 (x + 2)] from k111_mkM _ _ _ (⟨1, a0 + 1, 0, 0, x + 2⟩ : S111)) (Reps.c5 (show Kd.M k111 _ _ _ (⟨6, a0 + 1, a0, a0 + 1, 0⟩ : S111) [.int .i64 6, .int .i64 (a0 + 1), .int .i64 a0, .int .i64 (a0 + 1), .int .i64 0] from k111_mkM _ _ _ (⟨6, a0 + 1, a0, a0 + 1, 0⟩ : S111)) (Reps.none _ _))); intro v79 w79 hr79 hb79 hg79 _; obtain ⟨A79, c79, rfl⟩ := Kd.R_slice hr79; have HSp := Aside0.mk (HSo.out.step (below_none hg79)); have H79 := Aside0.mk hr79; clear hr79 hb79 hg79) | ((with_reducible refine gate_dst (N := 86) rfl ?_); refine Kd.R_lit k127 (w0 := w) w.heap.size 127 ?hg (N := 86) ?hd (xs := [isS a0 x, ⟨2, a0 + 1, [], ownS a0 b, allS a0 ↑(m + 1) (l1.drop (m + 1))⟩]) (inner := [.int .i64 1, .int .i64 0, .slice A79 2 c79, .slice none 0 0, .slice none 0 0, .int .i64 2, .int .i64 (a0 + 1), .slice none 0 0, .slice A70 (ownS a0 b).length c70, .slice Aa (allS a0 ↑(m + 1) (l1.drop (m + 1))).length ca]) (ok := fun _ => True) (okp := fun _ => True) ?hr ?hp (fun _ hk => hk) trivial (below_alloc (below_step HB.out HSp.out.below) _) (below_alloc (below_step HB.out HSp.out.below) _).size (by simp) ?_; (case hd => rfl); (case hg => rfl); (case hr => first | (go_simp; done) | (go_simp; rfl)); (case hp => exact Reps.c5 (show Kd.M k127 _ _ _ (isS a0 x) [.int .i64 1, .int .i64 0, .slice A79 2 c79, .slice none 0 0, .slice none 0 0] from k127_mkM _ _ _ (isS a0 x) (Kd.R_alloc (Kd.R_lower H79.out HB.out.size) _) (Kd.R_nil _ _ _ _ _) (Kd.R_nil _ _ _ _ _)) (Reps.c5 (show Kd.M k127 _ _ _ (⟨2, a0 + 1, [], ownS a0 b, allS a0 ↑(m + 1) (l1.drop (m + 1))⟩ : S127) [.int .i64 2, .int .i64 (a0 + 1), .slice none 0 0, .slice A70 (ownS a0 b).length c70, .slice Aa (allS a0 ↑(m + 1) (l1.drop (m + 1))).length ca] from k127_mkM _ _ _ (⟨2, a0 + 1, [], ownS a0 b, allS a0 ↑(m + 1) (l1.drop (m + 1))⟩ : S127) (Kd.R_nil _ _ _ _ _) (Kd.R_alloc (Kd.R_lower HSp.out.own HB.out.size) _) (Kd.R_alloc (Kd.R_below HA.out HSp.out.below) _)) (Reps.none _ _))); intro v86 w86 hr86 hb86 hg86 _; rw [← HAT2.out] at hr86; have HA86 := Aside0.mk hr86; have HB86 := Aside0.mk hb86; clear hr86 hb86 hg86))
            go_roundw
            case rel => exact ⟨x - 1, m, by go_num, ⟨by have := HX.out; omega⟩, by omega, by omega, by omega, HB86, HA86⟩
            case measure => simp [intOf]; omega
          · have htb : decide (b.f1 < 0) = false := decide_eq_false ht
            have HT := Aside0.mk ht
            clear ht
            go_wp2_with (first | ((with_reducible refine gate_dst (N := 36) rfl ?_); refine Kd.R_lit k111 (w0 := wr) wr.heap.size 111 ?hg (N := 36) ?hd (xs := ([] : List S111)) (inner := []) (ok := fun _ => True) (okp := fun _ => True) ?hr ?hp (fun _ hk => hk) trivial hbw.out.below hbw.out.below.size (by simp) ?_; (case hd => rfl); (case hg => rfl); (case hr => first | (go_simp; done) | (go_simp; rfl)); (case hp => exact (Reps.none _ _)); intro v36 w36 hr36 hb36 hg36 _; have HBW := Aside0.mk (hbw.out.step (below_none hg36)); have H36 := Aside0.mk hr36; clear hr36 hb36 hg36; have q0 : w36.cell? ⟨wr.heap.size, 0, none⟩ = some (.slice A0 b.f0.length k0) := (blk_cell HBW.out.box 0).trans rfl) | ((with_reducible refine gate_builtin (b := .append) (xs := #[.tmp 36, .tmp 38]) rfl ?_); at_builtin; refine Kd.R_append_rows k111 (Rr := k111.K w36) (w0 := wr) wr.heap.size rfl (.tmp 36) (.tmp 38) 77 111 (.agg #[.int .i64 0, .int .i64 0, .int .i64 0, .int .i64 0, .int .i64 0]) 40 rfl Try.underlying77 info111 rfl (by decide) (by decide) v36 [] b.f0 _ _ _ (fun _ => True) (fun _ => False) rfl rfl ?aO ?aR ?aM (fun _ h => h.elim) (fun _ _ => trivial) ?aB ?aS ?aL ?_; (case aR => exact Kd.C_below HCC.out HBW.out.below); (case aM => exact fun x cs h => by rw [k111_open h]; exact k111_mkM _ _ _ x); (case aB => exact HBW.out.below); (case aO => exact H36.out); (case aS => exact HBW.out.below.size); (case aL => have := HLB.out; simp only [List.length_nil]; omega); intro v39 w39 ho39 hb39 hg39 hat39; rw [List.nil_append] at ho39; obtain ⟨A39, c39, rfl⟩ := Kd.R_slice ho39; have HBX := Aside0.mk (HBW.out.grownO H36.out (by decide) hb39 hg39); have H39 := Aside0.mk ho39; clear ho39 hb39 hg39 hat39) | ((with_reducible refine gate_dst (N := 41) rfl ?_); refine Kd.R_lit k127 (w0 := wr) wr.heap.size 127 ?hg (N := 41) ?hd (xs := [(⟨1, 0, b.f0, [], []⟩ : S127)]) (inner := [.int .i64 1, .int .i64 0, .slice A39 b.f0.length c39, .slice none 0 0, .slice none 0 0]) (ok := fun _ => True) (okp := fun _ => True) ?hr ?hp (fun _ hk => hk) trivial HBX.out.below HBX.out.below.size (by simp) ?_; (case hd => rfl); (case hg => rfl); (case hr => first | (go_simp; done) | (go_simp; rfl)); (case hp => exact Reps.c5 (show Kd.M k127 _ _ _ (⟨1, 0, b.f0, [], []⟩ : S127) [.int .i64 1, .int .i64 0, .slice A39 b.f0.length c39, .slice none 0 0, .slice none 0 0] from k127_mkM _ _ _ (⟨1, 0, b.f0, [], []⟩ : S127) H39.out (Kd.R_nil _ _ _ _ _) (Kd.R_nil _ _ _ _ _)) (Reps.none _ _)); intro v41 w41 hr41 hb41 hg41 _; have HS := Aside0.mk (HBX.out.made hg41 hr41); clear hr41 hb41 hg41; have q1 : w41.cell? ⟨wr.heap.size, 1, none⟩ = some (.int .i64 b.f1) := (blk_cell HS.out.box 1).trans rfl))
            have HSd : Aside0 (BSt wr w41.drew wr.heap.size #[.slice A0 b.f0.length k0, .int .i64 b.f1, .int .i64 b.f2, .int .i64 b.f3] v41 [⟨1, 0, b.f0, [], []⟩]) := ⟨HS.out.step (below_drew (Below.refl _ _))⟩
            obtain ⟨⟨b7, b8⟩, b9, b10⟩ := HB6.out (by have := HT.out; omega)
            clear q0 q1
            have Wf2 : Aside0 (wrap64 (b.f2 + 1) = b.f2 + 1) := ⟨by unfold wrap64; omega⟩
            have Wf3 : Aside0 (wrap64 (b.f3 + 1) = b.f3 + 1) := ⟨by unfold wrap64; omega⟩
            refine start_ (n := 19) (S := fun w' => w'.cell? ⟨wr.heap.size, 1, none⟩ = some (.int .i64 b.f1) ∧ w'.cell? ⟨wr.heap.size, 2, none⟩ = some (.int .i64 b.f2) ∧ w'.cell? ⟨wr.heap.size, 3, none⟩ = some (.int .i64 b.f3)) (ds := []) #[false, false, false, false, false, false, false, false, false, false, false, false, false, false, false, false, false, false, false] (by kernel_rfl) rfl rfl ⟨(blk_cell HSd.out.box 1).trans rfl, (blk_cell HSd.out.box 2).trans rfl, (blk_cell HSd.out.box 3).trans rfl⟩ (fun hHeld => ?_)
            refine pure_ (i := 0) (N := some 53) (v := ?_) (a' := ?_) #[true, false, false, false, false, false, false, false, false, false, false, false, false, false, false, false, false, false, false] rfl rfl (by kernel_rfl) (fun _ _ _ h => h) (Or.inl ⟨by rfl, ?_⟩) ?_ ?_
            rotate_left
            · intro w'
              go_simp
              with_reducible rfl
            rotate_left
            · simp only [Act.put, List.setIfInBounds_toArray, List.set_cons_zero, List.set_cons_succ, i64_w, i32_w]
              rfl
            refine pure_ (i := 1) (N := some 54) (v := ?_) (a' := ?_) #[true, true, false, false, false, false, false, false, false, false, false, false, false, false, false, false, false, false, false] rfl rfl (by kernel_rfl) (fun _ _ _ h => h) (Or.inl ⟨by rfl, ?_⟩) ?_ ?_
            rotate_left
            · intro w'
              go_simp
              with_reducible rfl
            rotate_left
            · simp only [Act.put, List.setIfInBounds_toArray, List.set_cons_zero, List.set_cons_succ, i64_w, i32_w]
              rfl
            refine pure_ (i := 3) (N := some 56) (v := ?_) (a' := ?_) #[true, true, false, true, false, false, false, false, false, false, false, false, false, false, false, false, false, false, false] rfl rfl (by kernel_rfl) (fun _ _ _ h => h) (Or.inl ⟨by rfl, ?_⟩) ?_ ?_
            rotate_left
            · intro w'
              go_simp
              with_reducible rfl
            rotate_left
            · simp only [Act.put, List.setIfInBounds_toArray, List.set_cons_zero, List.set_cons_succ, i64_w, i32_w]
              rfl
            refine pure_ (i := 4) (N := some 57) (v := ?_) (a' := ?_) #[true, true, false, true, true, false, false, false, false, false, false, false, false, false, false, false, false, false, false] rfl rfl (by kernel_rfl) (fun _ _ _ h => h) (Or.inl ⟨by rfl, ?_⟩) ?_ ?_
            rotate_left
            · intro w'
              go_simp
              with_reducible rfl
            rotate_left
            · simp only [Act.put, List.setIfInBounds_toArray, List.set_cons_zero, List.set_cons_succ, i64_w, i32_w]
              rfl
            refine pure_ (i := 9) (N := some 62) (v := ?_) (a' := ?_) #[true, true, false, true, true, false, false, false, false, true, false, false, false, false, false, false, false, false, false] rfl rfl (by kernel_rfl) (fun _ _ _ h => h) (Or.inl ⟨by rfl, ?_⟩) ?_ ?_
            rotate_left
            · intro w'
              go_simp
              with_reducible rfl
            rotate_left
            · simp only [Act.put, List.setIfInBounds_toArray, List.set_cons_zero, List.set_cons_succ, i64_w, i32_w]
              rfl
            refine pure_ (i := 10) (N := some 63) (v := ?_) (a' := ?_) #[true, true, false, true, true, false, false, false, false, true, true, false, false, false, false, false, false, false, false] rfl rfl (by kernel_rfl) (fun _ _ _ h => h) (Or.inl ⟨by rfl, ?_⟩) ?_ ?_
            rotate_left
            · intro w'
              go_simp
              with_reducible rfl
            rotate_left
            · simp only [Act.put, List.setIfInBounds_toArray, List.set_cons_zero, List.set_cons_succ, i64_w, i32_w]
              rfl
            refine take_ (i := 2) (N := some 55) (v := ?_) (a' := ?_) #[true, true, true, true, true, false, false, false, false, true, true, false, false, false, false, false, false, false, false] rfl rfl (by kernel_rfl) (fun _ _ _ h => h) (Or.inl ⟨by rfl, ?_⟩) hHeld ?_ ?_
            rotate_left
            · rintro w' ⟨s0, s1, s2⟩
              go_simp
              with_reducible rfl
            rotate_left
            · simp only [Act.put, List.setIfInBounds_toArray, List.set_cons_zero, List.set_cons_succ, i64_w, i32_w]
              rfl
            refine take_ (i := 5) (N := some 58) (v := ?_) (a' := ?_) #[true, true, true, true, true, true, false, false, false, true, true, false, false, false, false, false, false, false, false] rfl rfl (by kernel_rfl) (fun _ _ _ h => h) (Or.inl ⟨by rfl, ?_⟩) hHeld ?_ ?_
            rotate_left
            · rintro w' ⟨s0, s1, s2⟩
              go_simp
              with_reducible rfl
            rotate_left
            · simp only [Act.put, List.setIfInBounds_toArray, List.set_cons_zero, List.set_cons_succ, i64_w, i32_w]
              rfl
            refine pure_ (i := 6) (N := some 59) (v := ?_) (a' := ?_) #[true, true, true, true, true, true, true, false, false, true, true, false, false, false, false, false, false, false, false] rfl rfl (by kernel_rfl) (fun _ _ _ h => h) (Or.inl ⟨by rfl, ?_⟩) ?_ ?_
            rotate_left
            · intro w'
              go_simp
              with_reducible rfl
            rotate_left
            · simp only [Act.put, List.setIfInBounds_toArray, List.set_cons_zero, List.set_cons_succ, i64_w, i32_w]
              rfl
            refine take_ (i := 11) (N := some 64) (v := ?_) (a' := ?_) #[true, true, true, true, true, true, true, false, false, true, true, true, false, false, false, false, false, false, false] rfl rfl (by kernel_rfl) (fun _ _ _ h => h) (Or.inl ⟨by rfl, ?_⟩) hHeld ?_ ?_
            rotate_left
            · rintro w' ⟨s0, s1, s2⟩
              go_simp
              with_reducible rfl
            rotate_left
            · simp only [Act.put, List.setIfInBounds_toArray, List.set_cons_zero, List.set_cons_succ, i64_w, i32_w]
              rfl
            refine pure_ (i := 12) (N := some 65) (v := ?_) (a' := ?_) #[true, true, true, true, true, true, true, false, false, true, true, true, true, false, false, false, false, false, false] rfl rfl (by kernel_rfl) (fun _ _ _ h => h) (Or.inl ⟨by rfl, ?_⟩) ?_ ?_
            rotate_left
            · intro w'
              go_simp
              with_reducible rfl
            rotate_left
            · simp only [Act.put, List.setIfInBounds_toArray, List.set_cons_zero, List.set_cons_succ, i64_w, i32_w]
              rfl
            refine one_ (i := 7) (N := some 60) #[true, true, true, true, true, true, true, true, false, true, true, true, true, false, false, false, false, false, false] rfl rfl (by kernel_rfl) (by decide) (fun K hK => ?_)
            refine goes_ Try.func80 (by kernel_rfl) rfl #[.int .i64 a0, .int .i64 (wrap64 (b.f2 + 1))] (by rfl) rfl rfl (by simp only [List.map_toArray, List.map_cons, List.map_nil]; rfl) ?_
            with_reducible refine (shape_num.calls a0 (wrap64 (b.f2 + 1)) 1 0 [⟨1, a0, 0, 0, wrap64 (b.f2 + 1)⟩] [] [] _ rfl).mono ?_
            rintro e w7 ⟨p2, p3, p4, rfl, hp2, hp3, hp4, hbp⟩
            refine ⟨_, rfl, ?_⟩
            rw [Wf2.out] at hp2
            obtain ⟨Ap2, cp2, rfl⟩ := R_slice1 hp2
            obtain ⟨Ap3, cp3, rfl⟩ := R_slice0 hp3
            obtain ⟨Ap4, cp4, rfl⟩ := R_slice0 hp4
            have M7 := Aside0.mk (HSd.out.num (v := a0) (x := b.f2 + 1) hp2 hp3 hp4)
            have HS7 := Aside0.mk (HSd.out.step hbp)
            clear hp2 hp3 hp4 hbp
            refine hK.out _ _ ⟨(blk_cell HS7.out.box 1).trans rfl, (blk_cell HS7.out.box 2).trans rfl, (blk_cell HS7.out.box 3).trans rfl⟩ (fun hHeld => ?_)
            clear hK K
            refine norm_ (a' := ?_) ?_ ?_
            rotate_left
            · show Act.put _ (some 60) _ = _
              simp only [Act.put, List.setIfInBounds_toArray, List.set_cons_zero, List.set_cons_succ, i64_w, i32_w]
              rfl
            refine join_ (σ := Value × Value × Value) 4 #[true, true, true, true, true, true, true, true, true, true, true, true, true, true, true, false, false, false, false] (fun s => [(61, s.1), (66, s.2.1), (67, s.2.2)]) (fun s w' => BSt wr w' wr.heap.size #[.slice A0 b.f0.length k0, .int .i64 b.f1, .int .i64 b.f2, .int .i64 b.f3] v41 [⟨1, 0, b.f0, [], []⟩] ∧ k127.R 127 w' wr.heap.size (fun k => some k ≠ v41.ownBlock) s.1 [(numS a0 (b.f2 + 1))] ∧ k127.R 127 w' wr.heap.size (fun k => some k ≠ v41.ownBlock) s.2.2 [(numS a0 (b.f3 + 1))]) ?_ ?_
            rotate_left
            · intro hCont
              refine two_ (i := 8) (j := 13) (Ni := some 61) (Nj := some 66) #[true, true, true, true, true, true, true, true, true, true, true, true, true, false, false, false, false, false, false] #[true, true, true, true, true, true, true, true, false, true, true, true, true, true, false, false, false, false, false] rfl rfl rfl rfl (by kernel_rfl) (by decide) (by decide) (fun K hK => ?_) (fun K hK => ?_)
              · skip
                refine Kd.R_lit_step k127 (w0 := wr) wr.heap.size 127 (by rfl) (N := 61) rfl (xs := [(numS a0 (b.f2 + 1))]) (inner := [.int .i64 1, .int .i64 0, .slice Ap2 1 cp2, .slice Ap3 0 cp3, .slice Ap4 0 cp4]) (ok := fun k => some k ≠ v41.ownBlock) (okp := fun k => some k ≠ v41.ownBlock) ?hr (Reps.c5 M7.out (Reps.none _ _)) (fun _ hk => hk) HS7.out.fresh HS7.out.below HS7.out.below.size (by simp) ?_
                case hr => first | (go_simp; done) | (go_simp; rfl)
                intro v61 w8 hv61 hbv61 hgv61 _
                have hzv61 := below_none hgv61
                have HS_8 := Aside0.mk (HS7.out.step hzv61)
                have R61 := Aside0.mk hv61
                clear hv61 hbv61 hgv61 hzv61
                refine hK.out _ _ ⟨(blk_cell HS_8.out.box 1).trans rfl, (blk_cell HS_8.out.box 2).trans rfl, (blk_cell HS_8.out.box 3).trans rfl⟩ (fun hHeld => ?_)
                clear hK K
                refine norm_ (a' := ?_) ?_ ?_
                rotate_left
                · show Act.put _ (some 61) _ = _
                  simp only [Act.put, List.setIfInBounds_toArray, List.set_cons_zero, List.set_cons_succ, i64_w, i32_w]
                  rfl
                refine one_ (i := 13) (N := some 66) #[true, true, true, true, true, true, true, true, true, true, true, true, true, true, false, false, false, false, false] rfl rfl (by kernel_rfl) (by decide) (fun K hK => ?_)
                refine goes_ Try.func80 (by kernel_rfl) rfl #[.int .i64 a0, .int .i64 (wrap64 (b.f3 + 1))] (by rfl) rfl rfl (by simp only [List.map_toArray, List.map_cons, List.map_nil]; rfl) ?_
                with_reducible refine (shape_num.calls a0 (wrap64 (b.f3 + 1)) 1 0 [⟨1, a0, 0, 0, wrap64 (b.f3 + 1)⟩] [] [] _ rfl).mono ?_
                rintro e w13 ⟨q2, q3, q4, rfl, hq2, hq3, hq4, hbq⟩
                refine ⟨_, rfl, ?_⟩
                rw [Wf3.out] at hq2
                obtain ⟨Aq2, cq2, rfl⟩ := R_slice1 hq2
                obtain ⟨Aq3, cq3, rfl⟩ := R_slice0 hq3
                obtain ⟨Aq4, cq4, rfl⟩ := R_slice0 hq4
                have M13 := Aside0.mk (HS_8.out.num (v := a0) (x := b.f3 + 1) hq2 hq3 hq4)
                have HS_13 := Aside0.mk (HS_8.out.step hbq)
                replace R61 := Aside0.mk (Kd.R_below R61.out hbq)
                clear hq2 hq3 hq4 hbq
                refine hK.out _ _ ⟨(blk_cell HS_13.out.box 1).trans rfl, (blk_cell HS_13.out.box 2).trans rfl, (blk_cell HS_13.out.box 3).trans rfl⟩ (fun hHeld => ?_)
                clear hK K
                refine norm_ (a' := ?_) ?_ ?_
                rotate_left
                · show Act.put _ (some 66) _ = _
                  simp only [Act.put, List.setIfInBounds_toArray, List.set_cons_zero, List.set_cons_succ, i64_w, i32_w]
                  rfl
                refine one_ (i := 14) (N := some 67) #[true, true, true, true, true, true, true, true, true, true, true, true, true, true, true, false, false, false, false] rfl rfl (by kernel_rfl) (by decide) (fun K hK => ?_)
                refine Kd.R_lit_step k127 (w0 := wr) wr.heap.size 127 (by rfl) (N := 67) rfl (xs := [(numS a0 (b.f3 + 1))]) (inner := [.int .i64 1, .int .i64 0, .slice Aq2 1 cq2, .slice Aq3 0 cq3, .slice Aq4 0 cq4]) (ok := fun k => some k ≠ v41.ownBlock) (okp := fun k => some k ≠ v41.ownBlock) ?hr (Reps.c5 M13.out (Reps.none _ _)) (fun _ hk => hk) HS_13.out.fresh HS_13.out.below HS_13.out.below.size (by simp) ?_
                case hr => first | (go_simp; done) | (go_simp; rfl)
                intro v67 w14 hv67 hbv67 hgv67 _
                have hzv67 := below_none hgv67
                have HS_14 := Aside0.mk (HS_13.out.step hzv67)
                have R67 := Aside0.mk hv67
                replace R61 := Aside0.mk (Kd.R_below R61.out hzv67)
                clear hv67 hbv67 hgv67 hzv67
                refine hK.out _ _ ⟨(blk_cell HS_14.out.box 1).trans rfl, (blk_cell HS_14.out.box 2).trans rfl, (blk_cell HS_14.out.box 3).trans rfl⟩ (fun hHeld => ?_)
                clear hK K
                refine norm_ (a' := ?_) ?_ ?_
                rotate_left
                · show Act.put _ (some 67) _ = _
                  simp only [Act.put, List.setIfInBounds_toArray, List.set_cons_zero, List.set_cons_succ, i64_w, i32_w]
                  rfl
                exact norm_ (by simp only [putAll, Act.put, List.setIfInBounds_toArray, List.set_cons_zero, List.set_cons_succ]) (hCont (v61, .agg #[.int .i64 1, .int .i64 0, .slice Aq2 1 cq2, .slice Aq3 0 cq3, .slice Aq4 0 cq4], v67) _ ⟨HS_14.out, R61.out, R67.out⟩)
              · skip
                refine goes_ Try.func80 (by kernel_rfl) rfl #[.int .i64 a0, .int .i64 (wrap64 (b.f3 + 1))] (by rfl) rfl rfl (by simp only [List.map_toArray, List.map_cons, List.map_nil]; rfl) ?_
                with_reducible refine (shape_num.calls a0 (wrap64 (b.f3 + 1)) 1 0 [⟨1, a0, 0, 0, wrap64 (b.f3 + 1)⟩] [] [] _ rfl).mono ?_
                rintro e w13 ⟨q2, q3, q4, rfl, hq2, hq3, hq4, hbq⟩
                refine ⟨_, rfl, ?_⟩
                rw [Wf3.out] at hq2
                obtain ⟨Aq2, cq2, rfl⟩ := R_slice1 hq2
                obtain ⟨Aq3, cq3, rfl⟩ := R_slice0 hq3
                obtain ⟨Aq4, cq4, rfl⟩ := R_slice0 hq4
                have M13 := Aside0.mk (HS7.out.num (v := a0) (x := b.f3 + 1) hq2 hq3 hq4)
                have HS_13 := Aside0.mk (HS7.out.step hbq)
                replace M7 := Aside0.mk (Kd.M_below M7.out hbq)
                clear hq2 hq3 hq4 hbq
                refine hK.out _ _ ⟨(blk_cell HS_13.out.box 1).trans rfl, (blk_cell HS_13.out.box 2).trans rfl, (blk_cell HS_13.out.box 3).trans rfl⟩ (fun hHeld => ?_)
                clear hK K
                refine norm_ (a' := ?_) ?_ ?_
                rotate_left
                · show Act.put _ (some 66) _ = _
                  simp only [Act.put, List.setIfInBounds_toArray, List.set_cons_zero, List.set_cons_succ, i64_w, i32_w]
                  rfl
                refine two_ (i := 8) (j := 14) (Ni := some 61) (Nj := some 67) #[true, true, true, true, true, true, true, true, true, true, true, true, true, true, false, false, false, false, false] #[true, true, true, true, true, true, true, true, false, true, true, true, true, true, true, false, false, false, false] rfl rfl rfl rfl (by kernel_rfl) (by decide) (by decide) (fun K hK => ?_) (fun K hK => ?_)
                · skip
                  refine Kd.R_lit_step k127 (w0 := wr) wr.heap.size 127 (by rfl) (N := 61) rfl (xs := [(numS a0 (b.f2 + 1))]) (inner := [.int .i64 1, .int .i64 0, .slice Ap2 1 cp2, .slice Ap3 0 cp3, .slice Ap4 0 cp4]) (ok := fun k => some k ≠ v41.ownBlock) (okp := fun k => some k ≠ v41.ownBlock) ?hr (Reps.c5 M7.out (Reps.none _ _)) (fun _ hk => hk) HS_13.out.fresh HS_13.out.below HS_13.out.below.size (by simp) ?_
                  case hr => first | (go_simp; done) | (go_simp; rfl)
                  intro v61 w8 hv61 hbv61 hgv61 _
                  have hzv61 := below_none hgv61
                  have HS_8 := Aside0.mk (HS_13.out.step hzv61)
                  have R61 := Aside0.mk hv61
                  replace M13 := Aside0.mk (Kd.M_below M13.out hzv61)
                  clear hv61 hbv61 hgv61 hzv61
                  refine hK.out _ _ ⟨(blk_cell HS_8.out.box 1).trans rfl, (blk_cell HS_8.out.box 2).trans rfl, (blk_cell HS_8.out.box 3).trans rfl⟩ (fun hHeld => ?_)
                  clear hK K
                  refine norm_ (a' := ?_) ?_ ?_
                  rotate_left
                  · show Act.put _ (some 61) _ = _
                    simp only [Act.put, List.setIfInBounds_toArray, List.set_cons_zero, List.set_cons_succ, i64_w, i32_w]
                    rfl
                  refine one_ (i := 14) (N := some 67) #[true, true, true, true, true, true, true, true, true, true, true, true, true, true, true, false, false, false, false] rfl rfl (by kernel_rfl) (by decide) (fun K hK => ?_)
                  refine Kd.R_lit_step k127 (w0 := wr) wr.heap.size 127 (by rfl) (N := 67) rfl (xs := [(numS a0 (b.f3 + 1))]) (inner := [.int .i64 1, .int .i64 0, .slice Aq2 1 cq2, .slice Aq3 0 cq3, .slice Aq4 0 cq4]) (ok := fun k => some k ≠ v41.ownBlock) (okp := fun k => some k ≠ v41.ownBlock) ?hr (Reps.c5 M13.out (Reps.none _ _)) (fun _ hk => hk) HS_8.out.fresh HS_8.out.below HS_8.out.below.size (by simp) ?_
                  case hr => first | (go_simp; done) | (go_simp; rfl)
                  intro v67 w14 hv67 hbv67 hgv67 _
                  have hzv67 := below_none hgv67
                  have HS_14 := Aside0.mk (HS_8.out.step hzv67)
                  have R67 := Aside0.mk hv67
                  replace R61 := Aside0.mk (Kd.R_below R61.out hzv67)
                  clear hv67 hbv67 hgv67 hzv67
                  refine hK.out _ _ ⟨(blk_cell HS_14.out.box 1).trans rfl, (blk_cell HS_14.out.box 2).trans rfl, (blk_cell HS_14.out.box 3).trans rfl⟩ (fun hHeld => ?_)
                  clear hK K
                  refine norm_ (a' := ?_) ?_ ?_
                  rotate_left
                  · show Act.put _ (some 67) _ = _
                    simp only [Act.put, List.setIfInBounds_toArray, List.set_cons_zero, List.set_cons_succ, i64_w, i32_w]
                    rfl
                  exact norm_ (by simp only [putAll, Act.put, List.setIfInBounds_toArray, List.set_cons_zero, List.set_cons_succ]) (hCont (v61, .agg #[.int .i64 1, .int .i64 0, .slice Aq2 1 cq2, .slice Aq3 0 cq3, .slice Aq4 0 cq4], v67) _ ⟨HS_14.out, R61.out, R67.out⟩)
                · skip
                  refine Kd.R_lit_step k127 (w0 := wr) wr.heap.size 127 (by rfl) (N := 67) rfl (xs := [(numS a0 (b.f3 + 1))]) (inner := [.int .i64 1, .int .i64 0, .slice Aq2 1 cq2, .slice Aq3 0 cq3, .slice Aq4 0 cq4]) (ok := fun k => some k ≠ v41.ownBlock) (okp := fun k => some k ≠ v41.ownBlock) ?hr (Reps.c5 M13.out (Reps.none _ _)) (fun _ hk => hk) HS_13.out.fresh HS_13.out.below HS_13.out.below.size (by simp) ?_
                  case hr => first | (go_simp; done) | (go_simp; rfl)
                  intro v67 w14 hv67 hbv67 hgv67 _
                  have hzv67 := below_none hgv67
                  have HS_14 := Aside0.mk (HS_13.out.step hzv67)
                  have R67 := Aside0.mk hv67
                  replace M7 := Aside0.mk (Kd.M_below M7.out hzv67)
                  clear hv67 hbv67 hgv67 hzv67
                  refine hK.out _ _ ⟨(blk_cell HS_14.out.box 1).trans rfl, (blk_cell HS_14.out.box 2).trans rfl, (blk_cell HS_14.out.box 3).trans rfl⟩ (fun hHeld => ?_)
                  clear hK K
                  refine norm_ (a' := ?_) ?_ ?_
                  rotate_left
                  · show Act.put _ (some 67) _ = _
                    simp only [Act.put, List.setIfInBounds_toArray, List.set_cons_zero, List.set_cons_succ, i64_w, i32_w]
                    rfl
                  refine one_ (i := 8) (N := some 61) #[true, true, true, true, true, true, true, true, true, true, true, true, true, true, true, false, false, false, false] rfl rfl (by kernel_rfl) (by decide) (fun K hK => ?_)
                  refine Kd.R_lit_step k127 (w0 := wr) wr.heap.size 127 (by rfl) (N := 61) rfl (xs := [(numS a0 (b.f2 + 1))]) (inner := [.int .i64 1, .int .i64 0, .slice Ap2 1 cp2, .slice Ap3 0 cp3, .slice Ap4 0 cp4]) (ok := fun k => some k ≠ v41.ownBlock) (okp := fun k => some k ≠ v41.ownBlock) ?hr (Reps.c5 M7.out (Reps.none _ _)) (fun _ hk => hk) HS_14.out.fresh HS_14.out.below HS_14.out.below.size (by simp) ?_
                  case hr => first | (go_simp; done) | (go_simp; rfl)
                  intro v61 w8 hv61 hbv61 hgv61 _
                  have hzv61 := below_none hgv61
                  have HS_8 := Aside0.mk (HS_14.out.step hzv61)
                  have R61 := Aside0.mk hv61
                  replace R67 := Aside0.mk (Kd.R_below R67.out hzv61)
                  clear hv61 hbv61 hgv61 hzv61
                  refine hK.out _ _ ⟨(blk_cell HS_8.out.box 1).trans rfl, (blk_cell HS_8.out.box 2).trans rfl, (blk_cell HS_8.out.box 3).trans rfl⟩ (fun hHeld => ?_)
                  clear hK K
                  refine norm_ (a' := ?_) ?_ ?_
                  rotate_left
                  · show Act.put _ (some 61) _ = _
                    simp only [Act.put, List.setIfInBounds_toArray, List.set_cons_zero, List.set_cons_succ, i64_w, i32_w]
                    rfl
                  exact norm_ (by simp only [putAll, Act.put, List.setIfInBounds_toArray, List.set_cons_zero, List.set_cons_succ]) (hCont (v61, .agg #[.int .i64 1, .int .i64 0, .slice Aq2 1 cq2, .slice Aq3 0 cq3, .slice Aq4 0 cq4], v67) _ ⟨HS_8.out, R61.out, R67.out⟩)
            rintro ⟨v61, v66, v67⟩ wj ⟨HSj0, R61j, R67j⟩
            obtain ⟨A61, c61, rfl⟩ := R_slice1 R61j
            obtain ⟨A67, c67, rfl⟩ := R_slice1 R67j
            have HSj := Aside0.mk HSj0
            have R61 := Aside0.mk R61j
            have R67 := Aside0.mk R67j
            clear HSj0 R61j R67j
            refine norm_ (a' := ?_) ?_ ?_
            rotate_left
            · simp only [putAll, Act.put, List.setIfInBounds_toArray, List.set_cons_zero, List.set_cons_succ]
              rfl
            refine pure_ (i := 15) (N := some 68) (v := ?_) (a' := ?_) #[true, true, true, true, true, true, true, true, true, true, true, true, true, true, true, true, false, false, false] rfl rfl (by kernel_rfl) (fun _ _ _ h => h) (Or.inl ⟨by rfl, ?_⟩) ?_ ?_
            rotate_left
            · intro w'
              go_simp
              with_reducible rfl
            rotate_left
            · simp only [Act.put, List.setIfInBounds_toArray, List.set_cons_zero, List.set_cons_succ, i64_w, i32_w]
              rfl
            refine one_ (i := 16) (N := some 69) #[true, true, true, true, true, true, true, true, true, true, true, true, true, true, true, true, true, false, false] rfl rfl (by kernel_rfl) (by decide) (fun K hK => ?_)
            refine value_ (w1 := ?_) (v := ?_) (by rfl) rfl ?_ ?_
            rotate_left 2
            · go_simp
              constructor
              · rfl
              · rfl
            refine hK.out _ _ ⟨(blk_cell (blk_alloc HSj.out.box _) 1).trans rfl, (blk_cell (blk_alloc HSj.out.box _) 2).trans rfl, (blk_cell (blk_alloc HSj.out.box _) 3).trans rfl⟩ (fun hHeld => ?_)
            clear hK K
            refine norm_ (a' := ?_) ?_ ?_
            rotate_left
            · show Act.put _ (some 69) _ = _
              simp only [Act.put, List.setIfInBounds_toArray, List.set_cons_zero, List.set_cons_succ, i64_w, i32_w]
              rfl
            refine one_ (i := 17) (N := some 70) #[true, true, true, true, true, true, true, true, true, true, true, true, true, true, true, true, true, true, false] rfl rfl (by kernel_rfl) (by decide) (fun K hK => ?_)
            refine Kd.R_append_step k127 (w0 := wr) wr.heap.size (by rfl) (.tmp 53) (.tmp 69) 22 127 (.agg #[.int .i64 0, .int .i64 0, .slice none 0 0, .slice none 0 0, .slice none 0 0]) 88 rfl Try.underlying22 info127 rfl (by decide) (by decide) v41 [⟨1, 0, b.f0, [], []⟩] ⟨2, b.f1, [], [(numS a0 (b.f2 + 1))], [(numS a0 (b.f3 + 1))]⟩ [.int .i64 2, .int .i64 b.f1, .slice none 0 0, .slice A61 1 c61, .slice A67 1 c67] (fun _ => True) (fun k => some k ≠ v41.ownBlock) rfl (by simp [go_sem]) (k127_mkM _ _ _ ⟨2, b.f1, [], [(numS a0 (b.f2 + 1))], [(numS a0 (b.f3 + 1))]⟩ (Kd.R_nil _ _ _ _ _) R61.out R67.out) (fun _ hk => ⟨trivial, hk⟩) (fun _ _ => trivial) HSj.out.own HSj.out.below HSj.out.below.size (by simp) ?_
            intro v70 w70 hr70 hb70 hg70 hat70
            have HS70 := Aside0.mk (HSj.out.grown hr70 hb70 hg70)
            clear hr70 hb70 hg70 hat70
            refine hK.out _ _ ⟨(blk_cell HS70.out.box 1).trans rfl, (blk_cell HS70.out.box 2).trans rfl, (blk_cell HS70.out.box 3).trans rfl⟩ (fun hHeld => ?_)
            clear hK K
            refine norm_ (a' := ?_) ?_ ?_
            rotate_left
            · show Act.put _ (some 70) _ = _
              simp only [Act.put, List.setIfInBounds_toArray, List.set_cons_zero, List.set_cons_succ, i64_w, i32_w]
              rfl
            refine pure_ (i := 18) (N := some 12) (v := ?_) (a' := ?_) #[true, true, true, true, true, true, true, true, true, true, true, true, true, true, true, true, true, true, true] rfl rfl (by kernel_rfl) (fun _ _ _ h => h) (Or.inl ⟨by rfl, ?_⟩) ?_ ?_
            rotate_left
            · intro w'
              go_simp
              with_reducible rfl
            rotate_left
            · simp only [Act.put, List.setIfInBounds_toArray, List.set_cons_zero, List.set_cons_succ, i64_w, i32_w]
              rfl
            refine done_ (by kernel_rfl) ?_
            have HSo : Aside0 (BSt wr w70 wr.heap.size #[.slice A0 b.f0.length k0, .int .i64 b.f1, .int .i64 b.f2, .int .i64 b.f3] v70 (ownS a0 b)) := ⟨by have h := HS70.out; unfold ownS; rw [if_neg (show ¬ b.f1 < 0 by have := HT.out; omega)]; exact h⟩
            clear HS70
            obtain ⟨A70, c70, rfl⟩ := Kd.R_slice HSo.out.own
            go_wp2_with (first | ((with_reducible refine gate_dst (N := 79) rfl ?_); refine Kd.R_lit k111 (w0 := wr) wr.heap.size 111 ?hg (N := 79) ?hd (xs := [(⟨1, a0 + 1, 0, 0, x + 2⟩ : S111), ⟨6, a0 + 1, a0, a0 + 1, 0⟩]) (inner := [.int .i64 1, .int .i64 (a0 + 1), .int .i64 0, .int .i64 0, .int .i64 (x + 2), .int .i64 6, .int .i64 (a0 + 1), .int .i64 a0, .int .i64 (a0 + 1), .int .i64 0]) (ok := fun _ => True) (okp := fun _ => True) ?hr ?hp (fun _ hk => hk) trivial HSo.out.below HSo.out.below.size (by simp) ?_; (case hd => rfl); (case hg => rfl); (case hr => first | (go_simp; done) | (go_simp; rfl)); (case hp => exact Reps.c5 (show Kd.M k111 _ _ _ (⟨1, a0 + 1, 0, 0, x + 2⟩ : S111) [.int .i64 1, .int .i64 (a0 + 1), .int .i64 0, .int .i64 0, .int .i64 (x + 2)] from k111_mkM _ _ _ (⟨1, a0 + 1, 0, 0, x + 2⟩ : S111)) (Reps.c5 (show Kd.M k111 _ _ _ (⟨6, a0 + 1, a0, a0 + 1, 0⟩ : S111) [.int .i64 6, .int .i64 (a0 + 1), .int .i64 a0, .int .i64 (a0 + 1), .int .i64 0] from k111_mkM _ _ _ (⟨6, a0 + 1, a0, a0 + 1, 0⟩ : S111)) (Reps.none _ _))); intro v79 w79 hr79 hb79 hg79 _; obtain ⟨A79, c79, rfl⟩ := Kd.R_slice hr79; have HSp := Aside0.mk (HSo.out.step (below_none hg79)); have H79 := Aside0.mk hr79; clear hr79 hb79 hg79) | ((with_reducible refine gate_dst (N := 86) rfl ?_); refine Kd.R_lit k127 (w0 := w) w.heap.size 127 ?hg (N := 86) ?hd (xs := [isS a0 x, ⟨2, a0 + 1, [], ownS a0 b, allS a0 ↑(m + 1) (l1.drop (m + 1))⟩]) (inner := [.int .i64 1, .int .i64 0, .slice A79 2 c79, .slice none 0 0, .slice none 0 0, .int .i64 2, .int .i64 (a0 + 1), .slice none 0 0, .slice A70 (ownS a0 b).length c70, .slice Aa (allS a0 ↑(m + 1) (l1.drop (m + 1))).length ca]) (ok := fun _ => True) (okp := fun _ => True) ?hr ?hp (fun _ hk => hk) trivial (below_alloc (below_step HB.out HSp.out.below) _) (below_alloc (below_step HB.out HSp.out.below) _).size (by simp) ?_; (case hd => rfl); (case hg => rfl); (case hr => first | (go_simp; done) | (go_simp; rfl)); (case hp => exact Reps.c5 (show Kd.M k127 _ _ _ (isS a0 x) [.int .i64 1, .int .i64 0, .slice A79 2 c79, .slice none 0 0, .slice none 0 0] from k127_mkM _ _ _ (isS a0 x) (Kd.R_alloc (Kd.R_lower H79.out HB.out.size) _) (Kd.R_nil _ _ _ _ _) (Kd.R_nil _ _ _ _ _)) (Reps.c5 (show Kd.M k127 _ _ _ (⟨2, a0 + 1, [], ownS a0 b, allS a0 ↑(m + 1) (l1.drop (m + 1))⟩ : S127) [.int .i64 2, .int .i64 (a0 + 1), .slice none 0 0, .slice A70 (ownS a0 b).length c70, .slice Aa (allS a0 ↑(m + 1) (l1.drop (m + 1))).length ca] from k127_mkM _ _ _ (⟨2, a0 + 1, [], ownS a0 b, allS a0 ↑(m + 1) (l1.drop (m + 1))⟩ : S127) (Kd.R_nil _ _ _ _ _) (Kd.R_alloc (Kd.R_lower HSp.out.own HB.out.size) _) (Kd.R_alloc (Kd.R_below HA.out HSp.out.below) _)) (Reps.none _ _))); intro v86 w86 hr86 hb86 hg86 _; rw [← HAT2.out] at hr86; have HA86 := Aside0.mk hr86; have HB86 := Aside0.mk hb86; clear hr86 hb86 hg86))
            go_roundw
            case rel => exact ⟨x - 1, m, by go_num, ⟨by have := HX.out; omega⟩, by omega, by omega, by omega, HB86, HA86⟩
            case measure => simp [intOf]; omega
        · have hxb : decide (0 ≤ x) = false := decide_eq_false hx
          obtain rfl : j = 0 := by have := HX.out; omega
          clear hx
          have HA0 : Aside0 (Kd.R k127 127 wr w.heap.size (fun _ => True) u9 (allS a0 0 l1)) := ⟨by have h := HA.out; rw [List.drop_zero] at h; exact h⟩
          have hal : (allS a0 0 l1).length ≤ 2 := by cases l1 <;> simp [allS]
          clear HA
          go_wp2_with (first | ((with_reducible refine gate_dst (N := 91) rfl ?_); refine Kd.R_lit k111 (w0 := w) w.heap.size 111 ?hg (N := 91) ?hd (xs := [(⟨2, a0 + 1, 0, 0, a0⟩ : S111)]) (inner := [.int .i64 2, .int .i64 (a0 + 1), .int .i64 0, .int .i64 0, .int .i64 a0]) (ok := fun k => some k ≠ u9.ownBlock) (okp := fun k => some k ≠ u9.ownBlock) ?hr ?hp (fun _ hk => hk) (R_fresh HA0.out) HB.out HB.out.size (by simp) ?_; (case hd => rfl); (case hg => rfl); (case hr => first | (go_simp; done) | (go_simp; rfl)); (case hp => exact Reps.c5 (show Kd.M k111 _ _ _ (⟨2, a0 + 1, 0, 0, a0⟩ : S111) [.int .i64 2, .int .i64 (a0 + 1), .int .i64 0, .int .i64 0, .int .i64 a0] from k111_mkM _ _ _ (⟨2, a0 + 1, 0, 0, a0⟩ : S111)) (Reps.none _ _)); intro v91 w91 hr91 hb91 hg91 _; obtain ⟨A91, c91, rfl⟩ := R_slice1 hr91; have HA1 := Aside0.mk (Kd.R_below HA0.out (below_none hg91)); have HB1 := Aside0.mk hb91; have H91 := Aside0.mk hr91; clear hr91 hb91 hg91) | ((with_reducible refine gate_builtin (b := .append) (xs := #[.tmp 87, .tmp 93]) rfl ?_); at_builtin; refine Kd.R_append k127 (w0 := w) w.heap.size rfl (.tmp 87) (.tmp 93) 22 127 (.agg #[.int .i64 0, .int .i64 0, .slice none 0 0, .slice none 0 0, .slice none 0 0]) 88 rfl Try.underlying22 info127 rfl (by decide) (by decide) u9 (allS a0 0 l1) (endS a0) [.int .i64 1, .int .i64 0, .slice A91 1 c91, .slice none 0 0, .slice none 0 0] (fun _ => True) (fun k => some k ≠ u9.ownBlock) rfl (by simp [go_sem]) (k127_mkM _ _ _ (endS a0) H91.out (Kd.R_nil _ _ _ _ _) (Kd.R_nil _ _ _ _ _)) (fun _ hk => ⟨trivial, hk⟩) (fun _ _ => trivial) HA1.out HB1.out HB1.out.size (by omega) ?_; intro v94 w94 hr94 hb94 hg94 hat94; obtain ⟨A94, c94, rfl⟩ := Kd.R_slice hr94; have HB2 := Aside0.mk hb94; have HA2 := Aside0.mk hr94; clear hr94 hb94 hg94 hat94))
          go_wp2_with fail
          refine (shape_num.calls a0 1 1 0 [⟨1, a0, 0, 0, 1⟩] [] [] _ rfl).mono ?_
          rintro e w96 ⟨p2, p3, p4, rfl, hp2, hp3, hp4, hbp⟩
          obtain ⟨Ap2, cp2, rfl⟩ := R_slice1 hp2
          obtain ⟨Ap3, cp3, rfl⟩ := R_slice0 hp3
          obtain ⟨Ap4, cp4, rfl⟩ := R_slice0 hp4
          have hs2 := HB2.out.size
          have P2 := Aside0.mk (Kd.R_lower hp2 hs2)
          have P3 := Aside0.mk (Kd.R_lower hp3 hs2)
          have P4 := Aside0.mk (Kd.R_lower hp4 hs2)
          have HA3 := Aside0.mk (Kd.R_below HA2.out hbp)
          have HB3 := Aside0.mk (below_step HB2.out hbp)
          clear hp2 hp3 hp4 hbp hs2
          go_wp2_with fail
          refine (shape_num.calls (a0 + 1) 1 1 0 [⟨1, a0 + 1, 0, 0, 1⟩] [] [] _ rfl).mono ?_
          rintro e w98 ⟨q2, q3, q4, rfl, hq2, hq3, hq4, hbq⟩
          obtain ⟨Aq2, cq2, rfl⟩ := R_slice1 hq2
          obtain ⟨Aq3, cq3, rfl⟩ := R_slice0 hq3
          obtain ⟨Aq4, cq4, rfl⟩ := R_slice0 hq4
          have hs2 := HB3.out.size
          have Q2 := Aside0.mk (Kd.R_lower hq2 hs2)
          have Q3 := Aside0.mk (Kd.R_lower hq3 hs2)
          have Q4 := Aside0.mk (Kd.R_lower hq4 hs2)
          replace P2 := Aside0.mk (Kd.R_below P2.out hbq)
          replace P3 := Aside0.mk (Kd.R_below P3.out hbq)
          replace P4 := Aside0.mk (Kd.R_below P4.out hbq)
          have HA4 := Aside0.mk (Kd.R_below HA3.out hbq)
          have HB4 := Aside0.mk (below_step HB3.out hbq)
          clear hq2 hq3 hq4 hbq hs2
          go_wp2_with ((with_reducible refine gate_dst (N := 102) rfl ?_); refine Kd.R_lit k127 (w0 := w) w.heap.size 127 ?hg (N := 102) ?hd (xs := [numS a0 1, numS (a0 + 1) 1, ⟨3, a0 + 1, [], allS a0 0 l1 ++ [endS a0], []⟩]) (inner := [.int .i64 1, .int .i64 0, .slice Ap2 1 cp2, .slice Ap3 0 cp3, .slice Ap4 0 cp4, .int .i64 1, .int .i64 0, .slice Aq2 1 cq2, .slice Aq3 0 cq3, .slice Aq4 0 cq4, .int .i64 3, .int .i64 (a0 + 1), .slice none 0 0, .slice A94 (allS a0 0 l1 ++ [endS a0]).length c94, .slice none 0 0]) (ok := fun _ => True) (okp := fun _ => True) ?hr ?hp (fun _ hk => hk) trivial HB4.out HB4.out.size (by simp) ?_; (case hd => rfl); (case hg => rfl); (case hr => first | (go_simp; done) | (go_simp; rfl)); (case hp => exact Reps.c5 (show Kd.M k127 _ _ _ (numS a0 1) [.int .i64 1, .int .i64 0, .slice Ap2 1 cp2, .slice Ap3 0 cp3, .slice Ap4 0 cp4] from k127_mkM _ _ _ (numS a0 1) (Kd.R_mono P2.out (fun _ _ => trivial)) (Kd.R_mono P3.out (fun _ _ => trivial)) (Kd.R_mono P4.out (fun _ _ => trivial))) (Reps.c5 (show Kd.M k127 _ _ _ (numS (a0 + 1) 1) [.int .i64 1, .int .i64 0, .slice Aq2 1 cq2, .slice Aq3 0 cq3, .slice Aq4 0 cq4] from k127_mkM _ _ _ (numS (a0 + 1) 1) (Kd.R_mono Q2.out (fun _ _ => trivial)) (Kd.R_mono Q3.out (fun _ _ => trivial)) (Kd.R_mono Q4.out (fun _ _ => trivial))) (Reps.c5 (show Kd.M k127 _ _ _ (⟨3, a0 + 1, [], allS a0 0 l1 ++ [endS a0], []⟩ : S127) [.int .i64 3, .int .i64 (a0 + 1), .slice none 0 0, .slice A94 (allS a0 0 l1 ++ [endS a0]).length c94, .slice none 0 0] from k127_mkM _ _ _ (⟨3, a0 + 1, [], allS a0 0 l1 ++ [endS a0], []⟩ : S127) (Kd.R_nil _ _ _ _ _) HA4.out (Kd.R_nil _ _ _ _ _)) (Reps.none _ _)))); intro v102 w102 hr102 hb102 hg102 _; have H102 := Aside0.mk hr102; have HB5 := Aside0.mk hb102; clear hr102 hb102 hg102)
          go_ret2
          exact ⟨_, rfl, H102.out, HB5.out⟩
end Go.Proofs.Ytaicamjpcnhjcaa.PA
namespace Go.Proofs.Ytaicamjpcnhjcaa.PA
open Go.RowKit Go.Proofs.YtaicamjpcnhjcaaW.PrintWords Go.Proofs.YtaicamjpcnhjcaaW.PrintLast Go.Proofs.YtaicamjpcnhjcaaW.PrintMore
set_option linter.unusedVariables false
set_option linter.unusedSimpArgs false
def shapesParts (go : List S127 → Option Int) : List (List S127) → Option Int
  | [] => some 0
  | p :: t => (go p).bind fun e => if e = 0 then shapesParts go t else some e
def shapesLoop (own : S127 → Int) (go : List S127 → Option Int) : List S127 → Option Int
  | [] => some 0
  | x :: t => if own x = 0 then (shapesParts go [x.f3, x.f4]).bind fun e => if e = 0 then shapesLoop own go t else some e else some (own x)
theorem shapesLoop_at (own : S127 → Int) (go : List S127 → Option Int) {l : List S127} {i : Nat} (h : i < l.length) : shapesLoop own go (l.drop i) = if own (l.getD i z127) = 0 then (shapesParts go [(l.getD i z127).f3, (l.getD i z127).f4]).bind fun e => if e = 0 then shapesLoop own go (l.drop (i + 1)) else some e else some (own (l.getD i z127)) := by
  rw [drop_at z127 h]; rfl
theorem shapesParts_at (go : List S127 → Option Int) {l : List (List S127)} {i : Nat} (h : i < l.length) : shapesParts go (l.drop i) = (go (l.getD i [])).bind fun e => if e = 0 then shapesParts go (l.drop (i + 1)) else some e := by
  rw [drop_at [] h]; rfl
theorem shapesParts_mono {go go' : List S127 → Option Int} (h : ∀ p, LeO (go p) (go' p)) : ∀ l, LeO (shapesParts go l) (shapesParts go' l)
  | [] => LeO.refl _
  | p :: t => LeO.bind (h p) (fun x => LeO.ite (shapesParts_mono h t) (LeO.refl _))
theorem shapesLoop_mono {own : S127 → Int} {go go' : List S127 → Option Int} (h : ∀ p, LeO (go p) (go' p)) : ∀ l, LeO (shapesLoop own go l) (shapesLoop own go' l)
  | [] => LeO.refl _
  | x :: t => LeO.ite (LeO.bind (shapesParts_mono h _) (fun y => LeO.ite (shapesLoop_mono h t) (LeO.refl _))) (LeO.refl _)
end Go.Proofs.Ytaicamjpcnhjcaa.PA
