/- The closure of hold.Play: what the machine's call comes to. -/
import Derived.Test.YtaicamjpcnhjcaaPA153
import Derived.Test.YtaicamjpcnhjcaaPA87
import Derived.Test.YtaicamjpcnhjcaaPu0
namespace Go.Proofs.Ytaicamjpcnhjcaa.PA
open Go.RowKit Go.Proofs.YtaicamjpcnhjcaaW.PrintWords Go.Proofs.YtaicamjpcnhjcaaW.PrintLast Go.Proofs.YtaicamjpcnhjcaaW.PrintMore
set_option linter.unusedVariables false
set_option linter.unusedSimpArgs false

/-- Where x stands first; below 0: nowhere. -/
def ix (x : Int) : List Int → Int
  | [] => -1
  | y :: t => if x = y then 0 else if ix x t < 0 then -1 else ix x t + 1
theorem ix_range (x : Int) : ∀ l, -1 ≤ ix x l ∧ ix x l < l.length
  | [] => by simp [ix]
  | y :: t => by
    have := ix_range x t
    simp only [ix, List.length_cons]
    split
    · omega
    · split <;> omega
theorem index_ev (l : List Int) (x : Int) (hl : l.length ≤ 9223372036854775807) : Ev (fun k => slices_Index_int_int.f k l x) (ix x l) := by
  unfold slices_Index_int_int.f
  have key := down_ind (n := l.length) (P := fun i => Ev (fun k => slices_Index_int_int.l0 k l x l.length i) (if ix x (l.drop i) < 0 then -1 else i + ix x (l.drop i))) ?_ ?_ 0 (by omega)
  · refine ev_eq key ?_
    have := ix_range x l
    simp only [List.drop_zero]
    split <;> omega
  · refine ev_succ ?_
    simp only [slices_Index_int_int.l0, List.drop_length]
    exact ev_neg (by omega) (Ev.now _)
  · intro i hi ih
    refine ev_succ ?_
    simp only [slices_Index_int_int.l0, wrap_nat hi hl, drop_at 0 hi, ix, ← rd_nat]
    generalize rd l i = y
    have := ix_range x (l.drop (i + 1))
    refine ev_pos (by omega) (ev_pos (by omega) (ev_pos (by omega) (ev_ite (fun h => ev_some ?_) (fun h => ev_eq ih ?_))))
    · rw [if_pos h, if_neg (by omega)]; omega
    · rw [if_neg h]
      split
      · rw [if_pos (by omega)]
      · rw [if_neg (by omega)]; omega

/-- The world where `out` lies in block p, and what it has. -/
structure OutAt (w0 w : World) (p : Nat) (ot : List Int) : Prop where
  below : Below w0.heap.size w0 w
  gp : w0.heap.size ≤ p
  cell : ∃ A c, ot.length ≤ c ∧ Kd.C (Kd.int .i64) w0 A ot.length ot ∧ w.heap[p]? = some (.cells #[.slice A ot.length c] 23 (0, 0))
def goesI (th : List Int) : List Int → Int
  | [] => -1
  | x :: _ => ix x th
def goesO : List Int → List Int
  | [] => []
  | _ :: o => o

set_option maxRecDepth 100000 in
set_option maxHeartbeats 1000000 in
theorem hold_goes.calls (w0 w : World) (p : Nat) (ot th : List Int) (q : Int) (S : OutAt w0 w p ot) (At : Option Addr) (ct : Nat) (ht : Kd.C (Kd.int .i64) w At th.length th) (hct : th.length ≤ ct) (hfar : ∀ ad, At = some ad → 0 < th.length → ad.block ≠ p) :
    Calls Try.prog 86 #[.int .i64 q, .slice At th.length ct, .pointer (some ⟨p, 0, none⟩)] w fun e w' => e = .returned (.int .i64 (goesI th ot)) ∧ OutAt w0 w' p (goesO ot) ∧ w.grownBy w' (some p) := by
  cases ot with
  | nil =>
    obtain ⟨hb, hp, A, c, hc, hC, hh⟩ := S
    have hcell : w.cell? ⟨p, 0, none⟩ = some (.slice A 0 c) := cell_blk' hh 0 rfl
    have HH := Aside0.mk hh
    have HC := Aside0.mk hC
    have HT := Aside0.mk ht
    clear hh hC ht
    go_enter Try.func86, Try.ntmps86
    go_wp2
    go_ret
    exact ⟨rfl, ⟨hb, hp, A, c, hc, HC.out, HH.out⟩, World.grownBy.refl _ _⟩
  | cons x o =>
    obtain ⟨hb, hp, A, c, hc, hC, hh⟩ := S
    rw [List.length_cons] at hc hC hh
    have hl := hC.2.1
    have hcell : w.cell? ⟨p, 0, none⟩ = some (.slice A (o.length + 1) c) := cell_blk' hh 0 rfl
    have hfz : w.frozen? ⟨p, 0, none⟩ = false := by simp [World.frozen?, hh]
    obtain ⟨kk, hk⟩ := (index_ev th x ht.2.1).rounds
    have HK := Aside0.mk hk
    obtain ⟨ad, hA, hx⟩ := int_at (Kd.C_below hC hb) 0 (by omega)
    subst hA
    obtain ⟨i0, hi0, hz0⟩ := Option.map_eq_some_iff.1 info3
    simp only [Prod.mk.injEq] at hz0
    obtain ⟨A1, hcut, hA1⟩ := print_cut (P := Try.prog) 23 3 .i64 Try.underlying23 hi0 hz0.2.1 (some ad) (o.length + 1) c 1 (by omega)
    have hC1 : Kd.C (Kd.int .i64) w0 A1 o.length o := by
      have := hA1 w0 .i64 (x :: o) hc (Kd.reads_of_C (enc := Value.int .i64) (d := (0 : Int)) (h1 := fun _ => rfl) hC)
      exact Kd.C_of_reads (d := (0 : Int)) (h1 := fun _ => rfl) this
    have hc1 : o.length ≤ c - 1 := by omega
    have hx' : w.cell? ad = some (.int .i64 x) := by
      have : ad.add 0 = ad := by unfold Addr.add; simp
      rw [this] at hx; simpa using hx
    have hth : Kd.C (Kd.int .i64) (w.setCell ⟨p, 0, none⟩ (.slice A1 o.length (c - 1))) At th.length th := by
      refine ⟨ht.1, ht.2.1, fun h0 => ?_⟩
      obtain ⟨ad2, e2, h2⟩ := ht.2.2 h0
      refine ⟨ad2, e2, fun j y hy => ?_⟩
      obtain ⟨cs, k1, k2, k3⟩ := h2 j y hy
      refine ⟨cs, k1, k2, fun i u hu => ?_⟩
      have hne := hfar ad2 e2 h0
      rw [World.cell?_of_block (Below.heap_setCell _ _ _ _ (by rw [add_block]; exact hne))]
      exact k3 i u hu
    have HT := Aside0.mk hth
    have HH := Aside0.mk hh
    have HC := Aside0.mk hC1
    have Hcut : ∀ W : World, (Instr.slice 23 (.slice (some ad) (o.length + 1) c) (some (.int .i64 1)) none none).run Try.prog W = .ok (.slice A1 o.length (c - 1)) W := hcut
    clear hcut
    clear hh hC ht hth hk hC1 hx hi0 hA1
    go_enter Try.func86, Try.ntmps86
    go_wp2_with (go_at_call 87; refine (slices_Index_int_int.calls kk _ _ _ _ _ _ HT.out hct HK.out).mono ?_; rintro e w2 ⟨rfl, ⟨n2, rfl⟩⟩)
    go_ret
    refine ⟨rfl, ?_, ?_⟩
    · have h1 : OutAt w0 (w.setCell ⟨p, 0, none⟩ (.slice A1 o.length (c - 1))) p o := ⟨hb.setCell hp _, hp, A1, c - 1, hc1, HC.out, blk_put HH.out 0 _ rfl⟩
      exact ⟨pw_below_drewN h1.below n2, hp, h1.cell⟩
    · exact ⟨rfl, rfl, rfl, by simp, fun k _ hne => Below.heap_setCell _ _ _ _ (fun e => hne (by rw [e]))⟩
end Go.Proofs.Ytaicamjpcnhjcaa.PA
