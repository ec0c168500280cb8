/- Texts of one proof, merged: PA102, PA431, PA43, PA8. -/
import Derived.Test.YtaicamjpcnhjcaaMMachCodes5
import Derived.Maps.OwnSet
import Derived.Maps.RangeWalk
import Derived.Maps.Views
namespace Go.Proofs.Ytaicamjpcnhjcaa.PA
open Go.RowKit Go.Proofs.YtaicamjpcnhjcaaW.PrintWords Go.Proofs.YtaicamjpcnhjcaaW.PrintLast Go.Proofs.YtaicamjpcnhjcaaW.PrintMore
set_option linter.unusedVariables false
set_option linter.unusedSimpArgs false
def mapD (l : List (Int × Int)) : DataW Unit := l.foldl (fun m p => m.put (.int .i64 p.1) (.lit (.int .i64 p.2))) (.map [])
theorem mapD_snoc (l : List (Int × Int)) (p : Int × Int) : mapD (l ++ [p]) = (mapD l).put (.int .i64 p.1) (.lit (.int .i64 p.2)) := by simp [mapD, List.foldl_append]
theorem keyed3 : Maps.Keyed Try.prog 3 := Maps.int_keyed Try.underlying3
theorem under152 : Try.prog.underlying 152 = some (.map 3 3) := by kernel_rfl
structure CSt (w wr : World) (g7 g9 gm : Nat) (v8 vc : Value) (bl cd : List Int) (wt : List (Int × Int)) : Prop where
  box : wr.heap[g7]? = some (.cells #[vc] 37 (0, 0))
  mbox : wr.heap[g9]? = some (.cells #[.map (some gm)] 152 (0, 0))
  code : Kd.R (Kd.int .u8) 5 wr w.heap.size (fun _ => True) vc cd
  begins : Kd.R (Kd.int .i64) 3 wr w.heap.size (fun _ => True) v8 bl
  map : wr.ownsMap Try.prog 3 (plainElem (H := Unit) Try.prog 3) gm wt.length (mapD wt)
  below : Below w.heap.size w wr
  le7 : w.heap.size ≤ g7
  lem : w.heap.size ≤ gm
section
variable {w wr w1 : World} {g7 g9 gm : Nat} {v8 vc v1 : Value} {bl bl1 cd cd1 : List Int} {wt : List (Int × Int)}
theorem map_not_cells {b g : Nat} {cs : Array Value} {t : TypeId} {n : Nat} {D : DataW Unit} (h : wr.ownsMap Try.prog 3 (plainElem (H := Unit) Try.prog 3) b n D) (hb : wr.heap[g]? = some (.cells cs t (0, 0))) : g ≠ b := by
  rintro rfl
  obtain ⟨es, clock, hm, _⟩ := h
  rw [hb] at hm
  cases hm
theorem map_not_row {α : Type} {d : Kd α} {e base : Nat} {ok : Nat → Prop} {u : Value} {xs : List α} {b n : Nat} {D : DataW Unit} (h : wr.ownsMap Try.prog 3 (plainElem (H := Unit) Try.prog 3) b n D) (hr : d.R e wr base ok u xs) : some b ≠ u.ownBlock := by
  intro e
  obtain ⟨cells, hc⟩ := Kd.R_typed hr b e.symm
  exact map_not_cells h hc rfl
theorem CSt.step (h : CSt w wr g7 g9 gm v8 vc bl cd wt) (hb : Below wr.heap.size wr w1) : CSt w w1 g7 g9 gm v8 vc bl cd wt :=
  ⟨(hb.block _ (blk_lt h.box)).trans h.box, (hb.block _ (blk_lt h.mbox)).trans h.mbox, Kd.R_below h.code hb, Kd.R_below h.begins hb, h.map.kept (grown_of_below hb none) (by simp), below_step h.below hb, h.le7, h.lem⟩
theorem CSt.put (h : CSt w wr g7 g9 gm v8 vc bl cd wt) {x i : Int} (hm : w1.ownsMap Try.prog 3 (plainElem (H := Unit) Try.prog 3) gm (wt.length + 1) ((mapD wt).put (.int .i64 x) (.lit (.int .i64 i)))) (hg : wr.grownBy w1 (some gm)) : CSt w w1 g7 g9 gm v8 vc bl cd (wt ++ [(x, i)]) :=
  ⟨blk_grown h.box hg (by simpa using map_not_cells h.map h.box), blk_grown h.mbox hg (by simpa using map_not_cells h.map h.mbox), Kd.R_grown1 h.code rfl hg (map_not_row h.map h.code), Kd.R_grown1 h.begins rfl hg (map_not_row h.map h.begins), by rw [mapD_snoc, List.length_append]; exact hm,
    pw_below_grown h.below _ h.below.size hg (fun k hk => by cases hk; exact h.lem), h.le7, h.lem⟩
theorem CSt.app (h : CSt w wr g7 g9 gm v8 vc bl cd wt) (hr : Kd.R (Kd.int .u8) 5 w1 w.heap.size (fun _ => True) v1 cd1) (hb : Below w.heap.size w w1) (hg : wr.grownBy w1 vc.ownBlock) : CSt w (w1.setCell ⟨g7, 0, none⟩ v1) g7 g9 gm v8 v1 bl cd1 wt := by
  have hbox := blk_grown h.box hg (Kd.R_ne h.code h.box (by decide))
  have hmb := blk_grown h.mbox hg (Kd.R_ne h.code h.mbox (by decide))
  have h8 := Kd.R_grown2 h.begins rfl hg (fun k hk => by
    obtain ⟨cells, hc⟩ := Kd.R_typed h.code k hk
    exact Kd.R_ne h.begins hc (by decide))
  refine ⟨by simpa using blk_set hbox 0 v1, blk_far hmb (blk_ne hmb hbox (by decide)) _, ?_, ?_, ?_, below_set hb h.le7, h.le7, h.lem⟩
  · exact Kd.R_drop (Kd.R_far (Kd.R_far1 hr rfl (Kd.R_ne hr hbox (by decide))) (fun k hk => hk.2) _)
  · exact Kd.R_drop (Kd.R_far (Kd.R_far1 h8 rfl (Kd.R_ne h8 hbox (by decide))) (fun k hk => hk.2) _)
  · have hm := h.map.kept hg (map_not_row h.map h.code)
    exact hm.setCell (fun e => map_not_cells hm hbox e.symm) _
end
theorem CSt.begun {w wr w1 : World} {g7 g9 gm : Nat} {v8 vc v1 : Value} {bl bl1 cd : List Int} {wt : List (Int × Int)} (h : CSt w wr g7 g9 gm v8 vc bl cd wt) (hr : Kd.R (Kd.int .i64) 3 w1 w.heap.size (fun _ => True) v1 bl1) (hb : Below w.heap.size w w1) (hg : wr.grownBy w1 v8.ownBlock) : CSt w w1 g7 g9 gm v1 vc bl1 cd wt :=
  ⟨blk_grown h.box hg (Kd.R_ne h.begins h.box (by decide)), blk_grown h.mbox hg (Kd.R_ne h.begins h.mbox (by decide)), Kd.R_grown2 h.code rfl hg (fun k hk => by
    obtain ⟨cells, hc⟩ := Kd.R_typed h.begins k hk
    exact Kd.R_ne h.code hc (by decide)), hr, h.map.kept hg (map_not_row h.map h.begins), hb, h.le7, h.lem⟩
def Oth (w w1 : World) : Prop := ∀ (g : Nat) (cs : Array Value), w.heap[g]? = some (.cells cs 79 (0, 0)) → w1.heap[g]? = some (.cells cs 79 (0, 0))
theorem Oth.trans {a b c : World} (h : Oth a b) (k : Oth b c) : Oth a c := fun g cs hg => k g cs (h g cs hg)
theorem Oth.below {a b : World} (h : Below a.heap.size a b) : Oth a b := fun g cs hg => (h.block g (blk_lt hg)).trans hg
section
variable {w wr w1 : World} {g7 g9 gm : Nat} {v8 vc v1 : Value} {bl bl1 cd cd1 : List Int} {wt : List (Int × Int)}
theorem CSt.oput (h : CSt w wr g7 g9 gm v8 vc bl cd wt) (hg : wr.grownBy w1 (some gm)) : Oth wr w1 := fun g cs hb => blk_grown hb hg (by simpa using map_not_cells h.map hb)
theorem CSt.oapp (h : CSt w wr g7 g9 gm v8 vc bl cd wt) (hg : wr.grownBy w1 vc.ownBlock) : Oth wr (w1.setCell ⟨g7, 0, none⟩ v1) := fun g cs hb => blk_far (blk_grown hb hg (Kd.R_ne h.code hb (by decide))) (blk_ne hb h.box (by decide)) _
theorem CSt.obegun (h : CSt w wr g7 g9 gm v8 vc bl cd wt) (hg : wr.grownBy w1 v8.ownBlock) : Oth wr w1 := fun g cs hb => blk_grown hb hg (Kd.R_ne h.begins hb (by decide))
end
set_option maxRecDepth 100000 in
set_option maxHeartbeats 4000000 in
theorem mach_Code_1.calls (o i : Int) (w wr : World) (g7 g9 gm : Nat) (v8 vc : Value) (bl cd : List Int) (wt : List (Int × Int)) (h : CSt w wr g7 g9 gm v8 vc bl cd wt) (hc : cd.length ≤ 1000000) (hw : wt.length ≤ 1000000) (hi : -9223372036854775808 ≤ i ∧ i ≤ 9223372036854775807) (ho : 0 ≤ o ∧ o ≤ 255) :
    Calls Try.prog 102 #[.int .u8 o, .int .i64 i, .pointer (some ⟨g9, 0, none⟩), .pointer (some ⟨g7, 0, none⟩)] wr fun e w' => e = .returned (.tuple #[]) ∧ ∃ vc', CSt w w' g7 g9 gm v8 vc' bl (cd ++ [o, 0, 0]) (wt ++ [((cd.length : Int) + 1, i)]) ∧ Oth wr w' := by
  have H := Aside0.mk h
  obtain ⟨A, c, rfl⟩ := Kd.R_slice h.code
  have q9 : wr.cell? ⟨g9, 0, none⟩ = some (.map (some gm)) := (blk_cell h.mbox 0).trans rfl
  have q7 : wr.cell? ⟨g7, 0, none⟩ = some (.slice A cd.length c) := (blk_cell h.box 0).trans rfl
  have HI : Aside0 ((Lit.int .i64 i).wf = true) := ⟨WalkArith.wf_i64 (by omega)⟩
  have HX : Aside0 ((Lit.int .i64 ((cd.length : Int) + 1)).wf = true) := ⟨WalkArith.wf_i64 (by omega)⟩
  have HWT := Aside0.mk hw
  clear h hi hw
  go_enter Try.func102, Try.ntmps102
  go_wp2_with (first | (at_mapUpdate; refine wpList_mapUpdate_own _ rfl _ _ _ 152 rfl 3 3 keyed3 under152 (plainElem (H := Unit) Try.prog 3) gm wt.length (mapD wt) rfl H.out.map (by have := HWT.out; unfold maxLen; omega) _ _ (.int .i64 ((cd.length : Int) + 1)) rfl rfl (Maps.keyOf_int_mk Try.underlying3 HX.out) (.lit (.int .i64 i)) [] (plainElem_int Try.underlying3 HI.out) ?_; intro w1 hm1 hg1; have H1 := Aside0.mk (H.out.put hm1 hg1); have O1 := Aside0.mk (H.out.oput hg1); clear hm1 hg1; have r7 : w1.cell? ⟨g7, 0, none⟩ = some (.slice A cd.length c) := (blk_cell H1.out.box 0).trans rfl) | ((with_reducible refine gate_dst (N := 13) rfl ?_); refine Kd.R_lit (Kd.int .u8) (w0 := w) w.heap.size 5 ?hg (N := 13) ?hd (xs := [o, 0, 0]) (inner := [.int .u8 o, .int .u8 0, .int .u8 0]) (ok := fun _ => True) (okp := fun _ => True) ?hr ?hp (fun _ hk => hk) trivial H1.out.below H1.out.below.size (by simp) ?_; (case hd => rfl); (case hg => rfl); (case hr => first | (go_simp; done) | (go_simp; rfl)); (case hp => exact Reps.one (show Kd.M (Kd.int .u8) _ _ _ o [.int .u8 o] from rfl) (Reps.one (show Kd.M (Kd.int .u8) _ _ _ 0 [.int .u8 0] from rfl) (Reps.one (show Kd.M (Kd.int .u8) _ _ _ 0 [.int .u8 0] from rfl) (Reps.none _ _)))); intro v13 w13 hr13 hb13 hg13 _; obtain ⟨A13, c13, rfl⟩ := Kd.R_slice hr13; have hz13 : Below w1.heap.size w1 w13 := ⟨hg13.os, hg13.tape, hg13.output, hg13.size, fun i hi => hg13.block i hi (by simp)⟩; have H13 := Aside0.mk (H1.out.step hz13); have O13 := Aside0.mk (O1.out.trans (Oth.below hz13)); clear hz13; have R13 := Aside0.mk (Kd.R_reads' hr13).2.2; clear hr13 hb13 hg13) | ((with_reducible refine gate_builtin (b := .append) (xs := #[.tmp 11, .tmp 13]) rfl ?_); at_builtin; refine Kd.R_append_rows (Kd.int .u8) (Rr := (Kd.int .u8).K w13) (w0 := w) w.heap.size rfl (.tmp 11) (.tmp 13) 37 5 (.int .u8 0) 1 rfl Try.underlying37 info5 rfl (by decide) (by decide) (.slice A cd.length c) cd [o, 0, 0] A13 3 c13 (fun _ => True) (fun _ => False) rfl rfl ?aO ?aR (fun _ _ h => h) (fun _ h => h.elim) (fun _ _ => trivial) ?aB ?aS ?aL ?_; (case aR => exact R13.out); (case aB => exact H13.out.below); (case aO => exact H13.out.code); (case aS => exact H13.out.below.size); (case aL => omega); intro v14 w14 ho14 hb14 hg14 hat14; have b14 := blk_grown H13.out.box hg14 (Kd.R_ne H13.out.code H13.out.box (by decide)); have r14 : w14.cell? ⟨g7, 0, none⟩ = some (.slice A cd.length c) := (blk_cell b14 0).trans rfl; have f14 : w14.frozen? ⟨g7, 0, none⟩ = false := blk_frozen b14 0; obtain ⟨A14, c14, rfl⟩ := Kd.R_slice ho14; have H14 := Aside0.mk (H13.out.app ho14 hb14 hg14); have O14 := Aside0.mk (O13.out.trans (H13.out.oapp (v1 := .slice A14 (cd ++ [o, 0, 0]).length c14) hg14)); clear ho14 hb14 hg14 hat14 b14))

  go_end0
  have h := H14.out
  simp only [List.length_append, List.length_cons, List.length_nil, Nat.zero_add, Nat.reduceAdd] at h
  have h2 := O14.out
  simp only [List.length_append, List.length_cons, List.length_nil, Nat.zero_add, Nat.reduceAdd] at h2
  exact ⟨rfl, _, h, h2⟩
end Go.Proofs.Ytaicamjpcnhjcaa.PA
namespace Go.Proofs.Ytaicamjpcnhjcaa.PA
open Go.RowKit Go.Proofs.YtaicamjpcnhjcaaW.PrintWords Go.Proofs.YtaicamjpcnhjcaaW.PrintLast Go.Proofs.YtaicamjpcnhjcaaW.PrintMore
set_option linter.unusedVariables false
set_option linter.unusedSimpArgs false
def stepB (s : S111) : List Int := (mach_step.f s.f0 s.f1 s.f2 s.f3 s.f4).getD []
theorem stepB_eq (s : S111) : mach_step.f s.f0 s.f1 s.f2 s.f3 s.f4 = some (stepB s) := by
  unfold stepB mach_step.f
  split
  · rfl
  · split <;> rfl
theorem stepB_len (s : S111) : (stepB s).length ≤ 3 := by
  unfold stepB mach_step.f
  split
  · simp
  · split <;> simp
abbrev CW := List Int × List (Int × Int)
def genTest (b : S79) (c : CW) : CW := if b.f1 ≥ 0 then (c.1 ++ [72 + b.f1, 0, 0], c.2 ++ [((c.1.length : Int) + 1, b.f3)]) else c
def genThen (i : Int) (b : S79) (c : CW) : CW := if b.f2 < 0 then (c.1 ++ [0], c.2) else if b.f2 ≠ i + 1 then (c.1 ++ [64, 0, 0], c.2 ++ [((c.1.length : Int) + 1, b.f2)]) else c
def genB (i : Int) (b : S79) (c : CW) : CW := genThen i b (genTest b (c.1 ++ b.f0.flatMap stepB, c.2))
def gen : Int → List S79 → List Int → CW → List Int × CW
  | _, [], bl, c => (bl, c)
  | i, b :: t, bl, c => gen (i + 1) t (bl ++ [(c.1.length : Int)]) (genB i b c)
def stepsN : List S79 → Nat
  | [] => 0
  | b :: t => b.f0.length + stepsN t
theorem gen_at {l : List S79} {j : Nat} (h : j < l.length) (bl : List Int) (c : CW) : gen j (l.drop j) bl c = gen ((j + 1 : Nat) : Int) (l.drop (j + 1)) (bl ++ [(c.1.length : Int)]) (genB j (l.getD j z79) c) := by
  rw [drop_at z79 h, gen]
  rfl
theorem stepsN_at {l : List S79} {j : Nat} (h : j < l.length) : stepsN (l.drop j) = (l.getD j z79).f0.length + stepsN (l.drop (j + 1)) := by rw [drop_at z79 h]; rfl
theorem flat_take {l : List S111} {j : Nat} (h : j < l.length) : (l.take (j + 1)).flatMap stepB = (l.take j).flatMap stepB ++ stepB (l.getD j z111) := by rw [take_at z111 h]; simp
theorem flat_len : ∀ (l : List S111), (l.flatMap stepB).length ≤ 3 * l.length
  | [] => by simp
  | s :: l => by
    rw [List.flatMap_cons, List.length_append, List.length_cons]
    have h1 := stepB_len s
    have h2 := flat_len l
    omega
theorem genB_len (i : Int) (b : S79) (c : CW) : (genB i b c).1.length ≤ c.1.length + 3 * b.f0.length + 6 ∧ (genB i b c).2.length ≤ c.2.length + 2 := by
  have h := flat_len b.f0
  generalize hf : b.f0.flatMap stepB = f at h
  unfold genB genThen genTest
  rw [hf]
  split <;> split <;> (try split) <;> simp only [List.length_append, List.length_cons, List.length_nil] <;> omega
def patch (bl : List Int) (cd : List Int) (p : Int × Int) : List Int := (cd.set p.1.toNat (rd bl p.2 % 256)).set (p.1 + 1).toNat (rd bl p.2 / 256 % 256)
def codeOf (l : List S79) : List Int := (gen 0 l [] ([], [])).2.2.foldl (patch (gen 0 l [] ([], [])).1) (gen 0 l [] ([], [])).2.1
def mach_Code.f (a0 : Int) (l1 : List S79) : Option (List Int × Int) :=
  if blockCheck a0 l1 ≠ 0 then some ([], blockCheck a0 l1) else if stepsN l1 ≤ 20 then some (codeOf l1, 0) else none
theorem blocks_at' {v n : Int} : ∀ {l : List S79} {j : Nat}, blocksErr v n l = 0 → j < l.length → blockErr v n (l.getD j z79) = 0
  | [], j, _, h => absurd h (by simp)
  | b :: t, j, h, hj => by
    rw [blocksErr] at h
    by_cases e : blockErr v n b ≠ 0
    · rw [if_pos e] at h; exact absurd h e
    · rw [if_neg e] at h
      cases j with
      | zero => exact by simpa using e
      | succ j => exact blocks_at' (l := t) h (by simpa using hj)
theorem block_bounds' {v n : Int} {b : S79} (h : blockErr v n b = 0) : -1 ≤ b.f1 ∧ b.f1 < v ∧ (-1 ≤ b.f2 ∧ (b.f2 < n ∨ b.f2 = -1)) ∧ (0 ≤ b.f1 → (0 ≤ b.f2 ∧ b.f2 < n) ∧ 0 ≤ b.f3 ∧ b.f3 < n) := by
  unfold blockErr insB at h
  simp only [Bool.and_eq_false_iff, decide_eq_false_iff_not] at h
  split at h
  · exact absurd h (by assumption)
  · split at h
    · exact absurd h (by decide)
    · split at h
      · exact absurd h (by decide)
      · refine ⟨by omega, by omega, ⟨by omega, by omega⟩, fun _ => ⟨⟨by omega, by omega⟩, by omega, by omega⟩⟩
def WOk (n : Int) (c : CW) : Prop := (∀ p ∈ c.2, 0 ≤ p.1 ∧ p.1 + 2 ≤ c.1.length ∧ 0 ≤ p.2 ∧ p.2 < n) ∧ c.2.Pairwise (fun p q => p.1 + 2 ≤ q.1)
theorem WOk.more {n : Int} {c : CW} (h : WOk n c) (l : List Int) : WOk n (c.1 ++ l, c.2) :=
  ⟨fun p hp => by have := h.1 p hp; simp only [List.length_append]; omega, h.2⟩
theorem WOk.place {n : Int} {c : CW} (h : WOk n c) {i : Int} (hi : 0 ≤ i ∧ i < n) (o : Int) : WOk n (c.1 ++ [o, 0, 0], c.2 ++ [((c.1.length : Int) + 1, i)]) :=
  ⟨fun p hp => by
    simp only [List.length_append, List.length_cons, List.length_nil]
    rcases List.mem_append.1 hp with hp | hp
    · have := h.1 p hp; omega
    · have e : p = ((c.1.length : Int) + 1, i) := by simpa using hp
      subst e
      exact ⟨by simp only; omega, by simp only; omega, hi.1, hi.2⟩,
  List.pairwise_append.2 ⟨h.2, List.pairwise_singleton _ _, fun p hp q hq => by
    have e : q = ((c.1.length : Int) + 1, i) := by simpa using hq
    subst e
    have := h.1 p hp
    simp only
    omega⟩⟩
theorem genB_ok {v n i : Int} {b : S79} {c : CW} (hb : blockErr v n b = 0) (h : WOk n c) : WOk n (genB i b c) := by
  obtain ⟨b1, b2, ⟨b3, b4⟩, b5⟩ := block_bounds' hb
  have h1 : WOk n (genTest b (c.1 ++ b.f0.flatMap stepB, c.2)) := by
    unfold genTest
    split
    · exact (h.more _).place (b5 ‹_›).2 _
    · exact h.more _
  unfold genB genThen
  split
  · exact h1.more _
  · split
    · exact h1.place ⟨by omega, by omega⟩ _
    · exact h1
theorem gen_ok {v n : Int} : ∀ (l : List S79) (i : Int) (bl : List Int) (c : CW), blocksErr v n l = 0 → WOk n c → WOk n (gen i l bl c).2 ∧ (gen i l bl c).1.length = bl.length + l.length
  | [], _, _, _, _, h => ⟨h, by simp [gen]⟩
  | b :: t, i, bl, c, hb, h => by
    rw [blocksErr] at hb
    by_cases e : blockErr v n b ≠ 0
    · rw [if_pos e] at hb; exact absurd hb e
    · rw [if_neg e] at hb
      have := gen_ok t (i + 1) (bl ++ [(c.1.length : Int)]) (genB i b c) hb (genB_ok (by simpa using e) h)
      rw [gen]
      refine ⟨this.1, ?_⟩
      rw [this.2]
      simp
      omega
theorem key_ne {a b : Int} (h : a ≠ b) : (Lit.int .i64 a) ≠ .int .i64 b := fun e => h (by injection e)
theorem keyLit (a : Int) : WideAt.IsKeyLit (.int .i64 a) := by simp [WideAt.IsKeyLit]
theorem mapD_isMap (l : List (Int × Int)) : Maps.IsMap (mapD l) := by
  have : ∀ (l : List (Int × Int)) (D : DataW Unit), Maps.IsMap D → Maps.IsMap (l.foldl (fun m p => m.put (.int .i64 p.1) (.lit (.int .i64 p.2))) D) := by
    intro l
    induction l with
    | nil => exact fun _ h => h
    | cons p l ih => exact fun D h => ih _ (h.put _ _)
  exact this l _ Maps.isMap_empty
theorem snoc_ind {α : Type} {P : List α → Prop} (h0 : P []) (hs : ∀ l a, P l → P (l ++ [a])) : ∀ l, P l := by
  intro l
  rw [← List.reverse_reverse l]
  induction l.reverse with
  | nil => exact h0
  | cons a t ih => rw [List.reverse_cons]; exact hs _ _ ih
theorem mapD_at {x c : Int} : ∀ (l : List (Int × Int)), (∀ zd, (mapD l).atKey (.int .i64 x) zd = .lit (.int .i64 c)) → (x, c) ∈ l := by
  refine snoc_ind (fun h => ?_) (fun l p ih h => ?_)
  · have := h .nil
    simp [mapD, DataW.atKey] at this
  · by_cases e : p.1 = x
    · have h1 := h .nil
      rw [mapD_snoc, e, Maps.atKey_put_same (mapD_isMap l) (keyLit x)] at h1
      injection h1 with h1
      injection h1 with _ h1
      refine List.mem_append.2 (.inr ?_)
      rw [← e, ← h1]
      simp
    · refine List.mem_append.2 (.inl (ih (fun zd => ?_)))
      have h1 := h zd
      rw [mapD_snoc, Maps.atKey_put_other (key_ne (fun e2 => e e2.symm))] at h1
      exact h1
theorem mapD_has : ∀ (l : List (Int × Int)), ∀ p ∈ l, Maps.has (mapD l) (.int .i64 p.1) = true := by
  refine snoc_ind (fun p hp => absurd hp (by simp)) (fun l q ih p hp => ?_)
  rw [mapD_snoc]
  by_cases e : p.1 = q.1
  · rw [e]; exact Maps.has_put_same (mapD_isMap l) (keyLit _) _
  · rw [Maps.has_put_other (key_ne e)]
    rcases List.mem_append.1 hp with hp | hp
    · exact ih p hp
    · have : p = q := by simpa using hp
      exact absurd (by rw [this]) e
theorem patch_len (bl cd : List Int) (p : Int × Int) : (patch bl cd p).length = cd.length := by simp [patch]
theorem patch_comm {bl cd : List Int} {p q : Int × Int} (h0 : 0 ≤ p.1) (h1 : 0 ≤ q.1) (h : p.1 + 2 ≤ q.1 ∨ q.1 + 2 ≤ p.1) : patch bl (patch bl cd p) q = patch bl (patch bl cd q) p := by
  unfold patch
  have e1 : p.1.toNat ≠ q.1.toNat := by omega
  have e2 : p.1.toNat ≠ (q.1 + 1).toNat := by omega
  have e3 : (p.1 + 1).toNat ≠ q.1.toNat := by omega
  have e4 : (p.1 + 1).toNat ≠ (q.1 + 1).toNat := by omega
  rw [List.set_comm _ _ e3, List.set_comm _ _ e1, List.set_comm (i := (p.1 + 1).toNat) _ _ e4, List.set_comm (i := p.1.toNat) _ _ e2]
def Apart (p q : Int × Int) : Prop := 0 ≤ p.1 ∧ 0 ≤ q.1 ∧ (p.1 + 2 ≤ q.1 ∨ q.1 + 2 ≤ p.1)
theorem patch_fold {bl : List Int} {p : Int × Int} : ∀ (l : List (Int × Int)) (cd : List Int), (∀ q ∈ l, Apart p q) → l.foldl (patch bl) (patch bl cd p) = patch bl (l.foldl (patch bl) cd) p
  | [], _, _ => rfl
  | q :: l, cd, h => by
    obtain ⟨h1, h2, h3⟩ := h q (by simp)
    rw [List.foldl_cons, List.foldl_cons, patch_comm h1 h2 h3]
    exact patch_fold l _ (fun x hx => h x (List.mem_cons_of_mem _ hx))
def donePatch (left : Lit → Bool) (p : Int × Int) : Bool := !left (.int .i64 p.1)
theorem sameKey_int (a b : Int) : (Lit.int .i64 a).sameKey (.int .i64 b) = decide (a = b) := by
  simp [Lit.sameKey]
  try rfl
theorem filter_none {left : Lit → Bool} {l : List (Int × Int)} (h : ∀ p ∈ l, left (.int .i64 p.1) = true) : l.filter (donePatch left) = [] :=
  List.filter_eq_nil_iff.2 (fun p hp => by simp [donePatch, h p hp])
theorem patch_next {bl cd : List Int} {left : Lit → Bool} {x c : Int} : ∀ (l : List (Int × Int)), l.Pairwise Apart → (x, c) ∈ l → left (.int .i64 x) = true →
    (l.filter (donePatch (fun z => left z && !z.sameKey (.int .i64 x)))).foldl (patch bl) cd = patch bl ((l.filter (donePatch left)).foldl (patch bl) cd) (x, c) := by
  intro l
  induction l generalizing cd with
  | nil => exact fun _ h _ => absurd h (by simp)
  | cons p l ih =>
    intro hp hm hl
    obtain ⟨h1, h2⟩ := List.pairwise_cons.1 hp
    have hd : ∀ q : Int × Int, donePatch (fun z => left z && !z.sameKey (.int .i64 x)) q = (donePatch left q || decide (q.1 = x)) := fun q => by
      simp [donePatch, sameKey_int]
      try (by_cases e : q.1 = x <;> simp [e])
    by_cases e : p.1 = x
    · have hpx : p = (x, c) := by
        rcases List.mem_cons.1 hm with hm | hm
        · exact hm.symm
        · have := h1 _ hm
          simp only [Apart] at this
          omega
      have hne : ∀ q ∈ l, q.1 ≠ x := fun q hq => by have := h1 q hq; simp only [Apart] at this; omega
      have hf : l.filter (donePatch (fun z => left z && !z.sameKey (.int .i64 x))) = l.filter (donePatch left) := List.filter_congr (fun q hq => by rw [hd, decide_eq_false (hne q hq), Bool.or_false])
      rw [List.filter_cons, if_pos (by rw [hd]; simp [e]), List.filter_cons, if_neg (by simp [donePatch, e, hl]), hf, List.foldl_cons, hpx]
      exact patch_fold _ _ (fun q hq => by rw [← hpx]; exact h1 q (List.mem_filter.1 hq).1)
    · have hm2 : (x, c) ∈ l := by
        rcases List.mem_cons.1 hm with hm | hm
        · exact absurd (by rw [← hm]) e
        · exact hm
      have hdp : donePatch (fun z => left z && !z.sameKey (.int .i64 x)) p = donePatch left p := by rw [hd, decide_eq_false e, Bool.or_false]
      rw [List.filter_cons, List.filter_cons, hdp]
      split
      · rw [List.foldl_cons, List.foldl_cons]; exact ih h2 hm2 hl
      · exact ih h2 hm2 hl
theorem apart_of {n : Int} {c : CW} (h : WOk n c) : c.2.Pairwise Apart := by
  have := h.1
  refine List.Pairwise.imp_of_mem (fun {p q} hp hq hpq => ?_) h.2
  exact ⟨(h.1 p hp).1, (h.1 q hq).1, .inl hpq⟩
end Go.Proofs.Ytaicamjpcnhjcaa.PA
namespace Go.Proofs.Ytaicamjpcnhjcaa.PA
open Go.RowKit Go.Proofs.YtaicamjpcnhjcaaW.PrintWords Go.Proofs.YtaicamjpcnhjcaaW.PrintLast Go.Proofs.YtaicamjpcnhjcaaW.PrintMore
set_option linter.unusedVariables false
set_option linter.unusedSimpArgs false
structure RSt (w wx : World) (g7 gm r : Nat) (v8 vc : Value) (bl cd : List Int) (wt : List (Int × Int)) (left : Lit → Bool) (cnt : Nat) : Prop where
  box : wx.heap[g7]? = some (.cells #[vc] 37 (0, 0))
  code : Kd.R (Kd.int .u8) 5 wx w.heap.size (fun _ => True) vc cd
  begins : Kd.R (Kd.int .i64) 3 wx w.heap.size (fun _ => True) v8 bl
  rng : wx.ranges Try.prog 3 (plainElem (H := Unit) Try.prog 3) gm r wt.length (mapD wt) left cnt
  below : Below w.heap.size w wx
  ler : w.heap.size ≤ r
section
variable {w wr w1 : World} {g7 g9 gm r : Nat} {v8 vc v1 : Value} {bl cd : List Int} {wt : List (Int × Int)} {left left1 : Lit → Bool} {cnt cnt1 : Nat}
theorem CSt.ranged (h : CSt w wr g7 g9 gm v8 vc bl cd wt) (hr : w1.ranges Try.prog 3 (plainElem (H := Unit) Try.prog 3) gm wr.heap.size wt.length (mapD wt) left cnt) (hg : wr.grownBy w1 none) : RSt w w1 g7 gm wr.heap.size v8 vc bl cd wt left cnt :=
  have hb : Below wr.heap.size wr w1 := ⟨hg.os, hg.tape, hg.output, hg.size, fun i hi => hg.block i hi (by simp)⟩
  have k := h.step hb
  ⟨k.box, k.code, k.begins, hr, k.below, h.below.size⟩
theorem iter_not_cells {b n : Nat} {D : DataW Unit} {cs : Array Value} {t : TypeId} {g : Nat} (h : wr.ranges Try.prog 3 (plainElem (H := Unit) Try.prog 3) b r n D left cnt) (hb : wr.heap[g]? = some (.cells cs t (0, 0))) : g ≠ r := by
  rintro rfl
  obtain ⟨es, clock, since, seen, c0, _, _, _, _, hi, _⟩ := h
  rw [hb] at hi
  cases hi
theorem RSt.next (h : RSt w wr g7 gm r v8 vc bl cd wt left cnt) (hr : w1.ranges Try.prog 3 (plainElem (H := Unit) Try.prog 3) gm r wt.length (mapD wt) left1 cnt1) (hg : wr.grownBy w1 (some r)) : RSt w w1 g7 gm r v8 vc bl cd wt left1 cnt1 := by
  have z : ∀ {α : Type} {d : Kd α} {e base : Nat} {ok : Nat → Prop} {u : Value} {xs : List α}, d.R e wr base ok u xs → some r ≠ u.ownBlock := fun hu e => by
    obtain ⟨cells, hc⟩ := Kd.R_typed hu r e.symm
    exact iter_not_cells h.rng hc rfl
  exact ⟨blk_grown h.box hg (by simpa using iter_not_cells h.rng h.box), Kd.R_grown1 h.code rfl hg (z h.code), Kd.R_grown1 h.begins rfl hg (z h.begins), hr, pw_below_grown h.below _ h.below.size hg (fun k hk => by cases hk; exact h.ler), h.ler⟩
theorem RSt.drew (h : RSt w wr g7 gm r v8 vc bl cd wt left cnt) : RSt w wr.drew g7 gm r v8 vc bl cd wt left cnt := ⟨h.box, Kd.R_drew h.code, Kd.R_drew h.begins, h.rng, below_drew h.below, h.ler⟩
theorem RSt.put {gc n cap : Nat} (h : RSt w wr g7 gm r v8 (.slice (some ⟨gc, 0, none⟩) n cap) bl cd wt left cnt) (i x : Int) : RSt w (wr.setCell ⟨gc, i.toNat, none⟩ (.int .u8 x)) g7 gm r v8 (.slice (some ⟨gc, 0, none⟩) n cap) bl (cd.set i.toNat x) wt left cnt := by
  obtain ⟨h1, h2⟩ := Kd.R_putg h.code i x
  obtain ⟨cells, hc⟩ := Kd.R_typed h.code gc (by simp [Value.ownBlock])
  refine ⟨blk_far h.box (blk_ne h.box hc (by decide)) _, h1, Kd.R_drop (Kd.R_far (Kd.R_far1 h.begins rfl (Kd.R_ne h.begins hc (by decide))) (fun k hk => hk.2) _), h.rng.kept h2 (by simpa using fun e => map_not_cells h.rng.owns hc e.symm) (by simpa using fun e => iter_not_cells h.rng hc e.symm), below_set h.below (Kd.R_base h.code gc (by simp [Value.ownBlock])), h.ler⟩
end
set_option maxRecDepth 100000 in
set_option maxHeartbeats 4000000 in
theorem mach_Code.calls (a0 : Int) (A1 : Option Addr) (c1 : Nat) (l1 : List S79) (r1 : List Int) (r2 : Int) (w : World) (hr1 : Kd.C k79 w A1 l1.length l1) (hc1 : l1.length ≤ c1) (h : mach_Code.f a0 l1 = some (r1, r2)) :
    Calls Try.prog 43 #[.int .i64 a0, .slice A1 l1.length c1] w fun e w' => ∃ v0_ : Value, e = .returned (.tuple #[v0_, .int .i64 r2]) ∧ Kd.R (Kd.int .u8) 5 w' w.heap.size (fun _ => True) v0_ r1 ∧ Below w.heap.size w w' := by
  have HR := Aside0.mk hr1
  have HC := Aside0.mk hc1
  clear hr1 hc1
  unfold mach_Code.f at h
  have E1 : Aside0 (block_Check.f a0 l1 = some (blockCheck a0 l1)) := ⟨rfl⟩
  by_cases c1 : blockCheck a0 l1 ≠ 0
  · rw [if_pos c1] at h
    obtain ⟨rfl, rfl⟩ : [] = r1 ∧ blockCheck a0 l1 = r2 := by simpa using h
    have cb : (blockCheck a0 l1 != 0) = true := bne_iff_ne.mpr c1
    clear h c1
    go_enter Try.func43, Try.ntmps43
    go_wp2_with (go_at_call 76; refine (block_Check.calls _ _ _ l1 _ _ HR.out HC.out E1.out).mono ?_; rintro e w2 ⟨rfl, hb2⟩)
    go_ret2
    exact ⟨_, rfl, Kd.R_nil _ _ _ _ _, hb2⟩
  · rw [if_neg c1] at h
    by_cases hsn : stepsN l1 ≤ 20
    rotate_left
    · rw [if_neg hsn] at h
      cases h
    rw [if_pos hsn] at h
    obtain ⟨rfl, rfl⟩ : codeOf l1 = r1 ∧ 0 = r2 := by simpa using h
    have cb : (blockCheck a0 l1 != 0) = false := by simpa using c1
    have hbd : 1 ≤ a0 ∧ a0 ≤ 6 ∧ 1 ≤ l1.length ∧ l1.length ≤ 8 ∧ blocksErr a0 l1.length l1 = 0 := by
      have B0 : blockCheck a0 l1 = 0 := by simpa using c1
      unfold blockCheck at B0
      split at B0
      · exact absurd B0 (by decide)
      · exact ⟨by omega, by omega, by omega, by omega, B0⟩
    obtain ⟨g1, g2, g3, g4, hb0⟩ := hbd
    have HB0 := Aside0.mk hb0
    have HSN := Aside0.mk hsn
    clear h c1 hb0 hsn
    have hmm := @run_makeMap Try.prog
    have hmf : ∀ (fn : Fn) (first cap : Array Value) (w : World), (Instr.makeFunc fn first cap).run Try.prog w = .ok (.func fn first cap) w := fun _ _ _ _ => rfl
    go_enter Try.func43, Try.ntmps43
    go_wp2_with (go_at_call 76; refine (block_Check.calls _ _ _ l1 _ _ HR.out HC.out E1.out).mono ?_; rintro e w2 ⟨rfl, hb2⟩; have HB2 := Aside0.mk hb2; clear hb2)
    have hb3 : Below w.heap.size w (((w2.alloc (.cells #[.slice none 0 0] 37)).alloc (.map #[] 0)).alloc (.cells #[.map (some (w2.heap.size + 1))] 152)) := below_alloc (below_alloc (below_alloc HB2.out _) _) _
    have hs2 := HB2.out.size
    have e1 : (w2.alloc (.cells #[.slice none 0 0] 37)).heap.size = w2.heap.size + 1 := by simp
    have e2 : ((w2.alloc (.cells #[.slice none 0 0] 37)).alloc (.map #[] 0)).heap.size = w2.heap.size + 1 + 1 := by simp
    have hst : CSt w (((w2.alloc (.cells #[.slice none 0 0] 37)).alloc (.map #[] 0)).alloc (.cells #[.map (some (w2.heap.size + 1))] 152)) w2.heap.size (w2.heap.size + 1 + 1) (w2.heap.size + 1) (.slice none 0 0) (.slice none 0 0) [] [] [] := by
      refine ⟨blk_alloc (blk_alloc (blk_new w2 _) _) _, ?_, Kd.R_nil _ _ _ _ _, Kd.R_nil _ _ _ _ _, ?_, hb3, hs2, by omega⟩
      · have := blk_new ((w2.alloc (.cells #[.slice none 0 0] 37)).alloc (.map #[] 0)) (.cells #[.map (some (w2.heap.size + 1))] 152)
        rw [e2] at this
        exact this
      · have := World.ownsMap_made (H := Unit) (w2.alloc (.cells #[.slice none 0 0] 37)) Try.prog 3 (plainElem (H := Unit) Try.prog 3)
        rw [e1] at this
        exact (this.alloc _)
    have HS0 := Aside0.mk hst
    clear hb3 hs2 e1 e2 hst
    generalize hres : gen 0 l1 [] ([], []) = res
    have HRES := Aside0.mk hres
    clear hres
    go_loopw [8, 27] (fun v8 i wr => ∃ (j : Nat) (vc : Value) (bl cd : List Int) (wt : List (Int × Int)), j ≤ l1.length ∧ i = .int .i64 j ∧ Aside0 (gen j (l1.drop j) bl (cd, wt) = res) ∧ Aside0 (cd.length + 3 * stepsN (l1.drop j) + 6 * (l1.length - j) ≤ 108) ∧ Aside0 (wt.length ≤ 2 * j) ∧ Aside0 (bl.length = j) ∧ Aside0 (CSt w wr w2.heap.size (w2.heap.size + 1 + 1) (w2.heap.size + 1) v8 vc bl cd wt)) (fun _ i _ => l1.length - (intOf i).toNat)
    case atStart => exact ⟨0, _, [], [], [], by omega, rfl, HRES, ⟨by have := HSN.out; simp only [List.drop_zero, List.length_nil]; omega⟩, ⟨by simp⟩, ⟨rfl⟩, HS0⟩
    case round =>
      clear HS0
      obtain ⟨j, vc, bl, cd, wt, hj, rfl, HG, HL, HW, HBL, HS⟩ := hrel
      by_cases hjt : j < l1.length
      · obtain ⟨ad, A0, k0, e0, h0, h1, h2, h3, hlc, hC⟩ := T79_at HR.out j hjt
        cases e0
        have HCC := Aside0.mk hC
        have HCL := Aside0.mk hlc
        have HG1 := Aside0.mk (by rw [← gen_at hjt bl (cd, wt)]; exact HG.out : gen ((j + 1 : Nat) : Int) (l1.drop (j + 1)) (bl ++ [(cd.length : Int)]) (genB j (l1.getD j z79) (cd, wt)) = res)
        have HL1 := Aside0.mk (by have := HL.out; rw [stepsN_at hjt] at this; exact this : cd.length + 3 * ((l1.getD j z79).f0.length + stepsN (l1.drop (j + 1))) + 6 * (l1.length - j) ≤ 108)
        have HBB : Aside0 (blockErr a0 l1.length (l1.getD j z79) = 0) := ⟨blocks_at' HB0.out hjt⟩
        clear hC hlc HG HL
        replace h0 := (HS.out.below.cell (World.block_lt_of_cell? w _ h0)).trans h0
        replace h1 := (HS.out.below.cell (World.block_lt_of_cell? w _ h1)).trans h1
        replace h2 := (HS.out.below.cell (World.block_lt_of_cell? w _ h2)).trans h2
        replace h3 := (HS.out.below.cell (World.block_lt_of_cell? w _ h3)).trans h3
        generalize l1.getD j z79 = b at *
        obtain ⟨b2, b3, ⟨b4, b5⟩, b6⟩ := block_bounds' HBB.out
        have hcd : cd.length ≤ 108 := by have := HL1.out; omega
        have hfl : b.f0.length ≤ 36 := by have := HL1.out; omega
        have HB6 := Aside0.mk b6
        clear b6
        obtain ⟨Ac, cc, rfl⟩ := Kd.R_slice HS.out.code
        have q7 : wr.cell? ⟨w2.heap.size, 0, none⟩ = some (.slice Ac cd.length cc) := (blk_cell HS.out.box 0).trans rfl
        have HSa := Aside0.mk (HS.out.step (below_alloc (Below.refl _ _) (.cells #[.slice A0 b.f0.length k0, .int .i64 b.f1, .int .i64 b.f2, .int .i64 b.f3] 79)))
        have hBx : Aside0 ((wr.alloc (.cells #[.slice A0 b.f0.length k0, .int .i64 b.f1, .int .i64 b.f2, .int .i64 b.f3] 79)).heap[wr.heap.size]? = some (.cells #[.slice A0 b.f0.length k0, .int .i64 b.f1, .int .i64 b.f2, .int .i64 b.f3] 79 (0, 0))) := ⟨blk_new wr _⟩
        have q7a : (wr.alloc (.cells #[.slice A0 b.f0.length k0, .int .i64 b.f1, .int .i64 b.f2, .int .i64 b.f3] 79)).cell? ⟨w2.heap.size, 0, none⟩ = some (.slice Ac cd.length cc) := (blk_cell HSa.out.box 0).trans rfl
        clear q7
        go_wp2_with (first | ((with_reducible refine gate_builtin (b := .append) (xs := #[.tmp 32, .tmp 35]) rfl ?_); at_builtin; refine Kd.R_append (Kd.int .i64) (w0 := w) w.heap.size rfl (.tmp 32) (.tmp 35) 23 3 (.int .i64 0) 8 rfl Try.underlying23 info3 rfl (by decide) (by decide) u8 bl (cd.length : Int) [.int .i64 (cd.length : Int)] (fun _ => True) (fun _ => False) rfl (by simp [go_sem]) rfl (fun _ h => h.elim) (fun _ _ => trivial) HSa.out.begins HSa.out.below HSa.out.below.size ?aL ?_; (case aL => have := HBL.out; omega); intro v36 w36 hr36 hb36 hg36 hat36; have HSb := Aside0.mk (HSa.out.begun hr36 hb36 hg36); have hBy := Aside0.mk (HSa.out.obegun hg36 _ _ hBx.out); clear hr36 hb36 hg36 hat36; have q0 : w36.cell? ⟨wr.heap.size, 0, none⟩ = some (.slice A0 b.f0.length k0) := (blk_cell hBy.out 0).trans rfl))
        obtain ⟨wo, hwo⟩ : ∃ wo : World, wo = wr := ⟨_, rfl⟩
        subst hwo
        clear h0 h1 h2 h3 q0 q7a HSa hBx HS
        go_loopw [40] (fun i w' => ∃ (t : Nat) (vc' : Value), t ≤ b.f0.length ∧ i = .int .i64 t ∧ Aside0 (CSt w w' w2.heap.size (w2.heap.size + 1 + 1) (w2.heap.size + 1) v36 vc' (bl ++ [(cd.length : Int)]) (cd ++ (b.f0.take t).flatMap stepB) wt) ∧ Aside0 (w'.heap[wo.heap.size]? = some (.cells #[.slice A0 b.f0.length k0, .int .i64 b.f1, .int .i64 b.f2, .int .i64 b.f3] 79 (0, 0)))) (fun i _ => b.f0.length - (intOf i).toNat)
        case atStart => exact ⟨0, _, by omega, rfl, ⟨by have h := HSb.out; simpa using h⟩, hBy⟩
        case round =>
          clear HSb hBy
          obtain ⟨t, vq, ht, rfl, HSi, HBi⟩ := hrel
          by_cases htt : t < b.f0.length
          · obtain ⟨ad2, e2, g0, g1', g2', g3', g4'⟩ := T111_at (Kd.C_below HCC.out HSi.out.below) t htt
            cases e2
            have HFT := Aside0.mk (flat_take htt)
            have HFL := Aside0.mk (flat_len (b.f0.take t))
            have HTK : Aside0 ((b.f0.take t).length ≤ t) := ⟨List.length_take_le _ _⟩
            generalize b.f0.getD t z111 = s at *
            obtain ⟨cq, hcq⟩ : ∃ cq, cq = cd ++ (b.f0.take t).flatMap stepB := ⟨_, rfl⟩
            rw [← hcq] at HSi
            have HCQE := Aside0.mk hcq
            have HCQ : Aside0 (cq.length ≤ 400) := ⟨by have h1 := HFL.out; have h2 := HTK.out; rw [hcq, List.length_append]; omega⟩
            have hcq1 : cq.length ≤ 400 := HCQ.out
            clear hcq
            obtain ⟨Ac2, cc2, rfl⟩ := Kd.R_slice HSi.out.code
            have HSd : Aside0 (CSt w (wr.alloc (.cells #[.int .i64 s.f0, .int .i64 s.f1, .int .i64 s.f2, .int .i64 s.f3, .int .i64 s.f4] 111)).drew w2.heap.size (w2.heap.size + 1 + 1) (w2.heap.size + 1) v36 (.slice Ac2 cq.length cc2) (bl ++ [(cd.length : Int)]) cq wt) := ⟨HSi.out.step (below_drew (below_alloc (Below.refl _ _) _))⟩
            have BXd : Aside0 ((wr.alloc (.cells #[.int .i64 s.f0, .int .i64 s.f1, .int .i64 s.f2, .int .i64 s.f3, .int .i64 s.f4] 111)).drew.heap[wr.heap.size]? = some (.cells #[.int .i64 s.f0, .int .i64 s.f1, .int .i64 s.f2, .int .i64 s.f3, .int .i64 s.f4] 111 (0, 0))) := ⟨blk_new wr _⟩
            have BBd : Aside0 ((wr.alloc (.cells #[.int .i64 s.f0, .int .i64 s.f1, .int .i64 s.f2, .int .i64 s.f3, .int .i64 s.f4] 111)).drew.heap[wo.heap.size]? = some (.cells #[.slice (some ad2) b.f0.length k0, .int .i64 b.f1, .int .i64 b.f2, .int .i64 b.f3] 79 (0, 0))) := ⟨blk_alloc HBi.out _⟩
            go_wp2_with fail
            refine start_ (n := 5) (S := fun w' => w'.cell? ⟨w2.heap.size, 0, none⟩ = some (.slice Ac2 cq.length cc2) ∧ w'.cell? ⟨wr.heap.size, 0, none⟩ = some (.int .i64 s.f0) ∧ w'.cell? ⟨wr.heap.size, 1, none⟩ = some (.int .i64 s.f1) ∧ w'.cell? ⟨wr.heap.size, 2, none⟩ = some (.int .i64 s.f2) ∧ w'.cell? ⟨wr.heap.size, 3, none⟩ = some (.int .i64 s.f3) ∧ w'.cell? ⟨wr.heap.size, 4, none⟩ = some (.int .i64 s.f4)) (ds := [4]) #[false, false, false, false, false] (by kernel_rfl) rfl rfl ⟨(blk_cell HSd.out.box 0).trans rfl, (blk_cell BXd.out 0).trans rfl, (blk_cell BXd.out 1).trans rfl, (blk_cell BXd.out 2).trans rfl, (blk_cell BXd.out 3).trans rfl, (blk_cell BXd.out 4).trans rfl⟩ (fun hHeld => ?_)
            refine take_ (i := 0) (N := some 44) (v := ?_) (a' := ?_) #[true, false, false, false, false] rfl rfl (by kernel_rfl) (fun _ _ _ h => h) (Or.inl ⟨by rfl, ?_⟩) hHeld ?_ ?_
            rotate_left
            · rintro w' ⟨s0, s1, s2, s3, s4, s5⟩
              go_simp
              with_reducible rfl
            rotate_left
            · simp only [Act.put, List.setIfInBounds_toArray, List.set_cons_zero, List.set_cons_succ, i64_w, i32_w]
              rfl
            refine take_ (i := 1) (N := some 45) (v := ?_) (a' := ?_) #[true, true, false, false, false] rfl rfl (by kernel_rfl) (fun _ _ _ h => h) (Or.inl ⟨by rfl, ?_⟩) hHeld ?_ ?_
            rotate_left
            · rintro w' ⟨s0, s1, s2, s3, s4, s5⟩
              go_simp
              with_reducible rfl
            rotate_left
            · simp only [Act.put, List.setIfInBounds_toArray, List.set_cons_zero, List.set_cons_succ, i64_w, i32_w]
              rfl
            refine one_ (i := 2) (N := some 46) #[true, true, true, false, false] rfl rfl (by kernel_rfl) (by decide) (fun K hK => ?_)
            refine goes_ Try.func103 (by kernel_rfl) rfl #[.agg #[.int .i64 s.f0, .int .i64 s.f1, .int .i64 s.f2, .int .i64 s.f3, .int .i64 s.f4]] (by rfl) rfl rfl (by simp only [List.map_toArray, List.map_cons, List.map_nil]; rfl) ?_
            with_reducible refine (mach_step.calls s.f0 s.f1 s.f2 s.f3 s.f4 (stepB s) _ (stepB_eq s)).mono ?_
            rintro e w46 ⟨v46, rfl, hr46, hb46⟩
            refine ⟨_, rfl, ?_⟩
            have HSe := Aside0.mk (HSd.out.step hb46)
            have BXe := Aside0.mk ((hb46.block _ (blk_lt BXd.out)).trans BXd.out)
            have BBe := Aside0.mk ((hb46.block _ (blk_lt BBd.out)).trans BBd.out)
            obtain ⟨A46, c46, rfl⟩ := Kd.R_slice hr46
            have R46 := Aside0.mk (Kd.R_reads' hr46).2.2
            clear hr46 hb46
            refine hK.out _ _ ⟨(blk_cell HSe.out.box 0).trans rfl, (blk_cell BXe.out 0).trans rfl, (blk_cell BXe.out 1).trans rfl, (blk_cell BXe.out 2).trans rfl, (blk_cell BXe.out 3).trans rfl, (blk_cell BXe.out 4).trans rfl⟩ (fun hHeld => ?_)
            clear hK K
            refine norm_ (a' := ?_) ?_ ?_
            rotate_left
            · show Act.put _ (some 46) _ = _
              simp only [Act.put, List.setIfInBounds_toArray, List.set_cons_zero, List.set_cons_succ, i64_w, i32_w]
              rfl
            refine one_ (i := 3) (N := some 47) #[true, true, true, true, false] rfl rfl (by kernel_rfl) (by decide) (fun K hK => ?_)
            refine Kd.R_append_rows_step (Kd.int .u8) (Rr := (Kd.int .u8).K w46) (w0 := w) w.heap.size (by rfl) (.tmp 44) (.tmp 46) 37 5 (.int .u8 0) 1 rfl Try.underlying37 info5 rfl (by decide) (by decide) (.slice Ac2 cq.length cc2) cq (stepB s) A46 (stepB s).length c46 (fun _ => True) (fun _ => False) rfl rfl HSe.out.code R46.out (fun _ _ h => h) (fun _ h => h.elim) (fun _ _ => trivial) HSe.out.below HSe.out.below.size (by have := HCQ.out; have := stepB_len s; omega) ?_
            intro v47 w47 ho47 hb47 hg47 hat47
            have b47 := blk_grown HSe.out.box hg47 (Kd.R_ne HSe.out.code HSe.out.box (by decide))
            have bx47 := Aside0.mk (blk_grown BXe.out hg47 (Kd.R_ne HSe.out.code BXe.out (by decide)))
            have bb47 := Aside0.mk (blk_grown BBe.out hg47 (Kd.R_ne HSe.out.code BBe.out (by decide)))
            have HSf := Aside0.mk (HSe.out.app ho47 hb47 hg47)
            have bb48 := Aside0.mk (blk_far (p := ⟨w2.heap.size, 0, none⟩) bb47.out (blk_ne bb47.out b47 (by decide)) v47)
            have f47 : w47.frozen? ⟨w2.heap.size, 0, none⟩ = false := blk_frozen b47 0
            have r47 : w47.cell? ⟨w2.heap.size, 0, none⟩ = some (.slice Ac2 cq.length cc2) := (blk_cell b47 0).trans rfl
            obtain ⟨A47, c47, rfl⟩ := Kd.R_slice ho47
            refine hK.out _ _ ⟨(blk_cell b47 0).trans rfl, (blk_cell bx47.out 0).trans rfl, (blk_cell bx47.out 1).trans rfl, (blk_cell bx47.out 2).trans rfl, (blk_cell bx47.out 3).trans rfl, (blk_cell bx47.out 4).trans rfl⟩ (fun hHeld => ?_)
            clear hK K
            refine norm_ (a' := ?_) ?_ ?_
            rotate_left
            · show Act.put _ (some 47) _ = _
              simp only [Act.put, List.setIfInBounds_toArray, List.set_cons_zero, List.set_cons_succ, i64_w, i32_w]
              rfl
            refine last_ (i := 4) (N := none) #[true, true, true, true, true] rfl rfl (by kernel_rfl) (by decide) (fun K hK => ?_)
            refine skip_ (w1 := ?_) (by rfl) rfl ?_ ?_
            rotate_left
            · go_simp
              rfl
            refine hK.out _ _ ?_
            clear hK K
            refine done_ (by kernel_rfl) ?_
            clear f47 r47
            go_wp2
            go_roundw
            case rel => exact ⟨t + 1, _, by omega, by go_num, ⟨by have hsf := HSf.out; rw [List.length_append] at hsf; exact (congrArg (fun z => CSt w (w47.setCell ⟨w2.heap.size, 0, none⟩ (.slice A47 (cq.length + (stepB s).length) c47)) w2.heap.size (w2.heap.size + 1 + 1) (w2.heap.size + 1) v36 (.slice A47 (cq.length + (stepB s).length) c47) (bl ++ [(cd.length : Int)]) z wt) (show cq ++ stepB s = cd ++ (b.f0.take (t + 1)).flatMap stepB by rw [HCQE.out, HFT.out, List.append_assoc])).mp hsf⟩, ⟨by have h := bb48.out; rw [List.length_append] at h; exact h⟩⟩
            case measure => simp [intOf]; omega
          · have HSx : Aside0 (CSt w wr w2.heap.size (w2.heap.size + 1 + 1) (w2.heap.size + 1) v36 vq (bl ++ [(cd.length : Int)]) (cd ++ b.f0.flatMap stepB) wt) := ⟨by have h := HSi.out; rw [List.take_of_length_le (by omega)] at h; exact h⟩
            clear HSi
            have HFB := Aside0.mk (flat_len b.f0)
            obtain ⟨c0, hc0⟩ : ∃ c0 : List Int, c0 = cd ++ b.f0.flatMap stepB := ⟨_, rfl⟩
            rw [← hc0] at HSx
            have HC0L : Aside0 (c0.length ≤ cd.length + 3 * b.f0.length) := ⟨by have := HFB.out; rw [hc0, List.length_append]; omega⟩
            obtain ⟨c2, hc2⟩ : ∃ c2 : CW, c2 = genTest b (c0, wt) := ⟨_, rfl⟩
            have HCW : Aside0 (genThen j b c2 = genB j b (cd, wt)) := ⟨by rw [hc2, hc0]; rfl⟩
            have HC2L : Aside0 (c2.1.length ≤ 400 ∧ c2.2.length ≤ 400) := ⟨by
              have h1 := HC0L.out
              have h2 := HW.out
              rw [hc2]; unfold genTest; split <;> simp only [List.length_append, List.length_cons, List.length_nil] <;> omega⟩
            have p1 : wr.cell? ⟨wo.heap.size, 1, none⟩ = some (.int .i64 b.f1) := (blk_cell HBi.out 1).trans rfl
            by_cases hT : 0 ≤ b.f1
            · have hTb : decide (0 ≤ b.f1) = true := decide_eq_true hT
              obtain ⟨⟨b7, b8⟩, b9, b10⟩ := HB6.out hT
              have p3 : wr.cell? ⟨wo.heap.size, 3, none⟩ = some (.int .i64 b.f3) := (blk_cell HBi.out 3).trans rfl
              have hc2' : c2 = (c0 ++ [72 + b.f1, 0, 0], wt ++ [((c0.length : Int) + 1, b.f3)]) := by rw [hc2]; unfold genTest; rw [if_pos hT]
              have HC2E := Aside0.mk hc2'
              clear hc0 hc2 hc2' hT
              go_wp2_with fail
              refine (mach_Code_1.calls (72 + b.f1) b.f3 w wr _ _ _ v36 _ _ c0 wt HSx.out (by have := HC0L.out; omega) (by have := HW.out; omega) (by omega) (by omega)).mono ?_
              rintro e w59 ⟨rfl, vc2, h59, o59⟩
              have HBj := Aside0.mk (o59 _ _ HBi.out)
              have HS2 : Aside0 (CSt w w59 w2.heap.size (w2.heap.size + 1 + 1) (w2.heap.size + 1) v36 vc2 (bl ++ [(cd.length : Int)]) c2.1 c2.2) := ⟨by rw [HC2E.out]; exact h59⟩
              clear h59 o59 p1 p3 HC2E
              obtain ⟨Ae, ce, rfl⟩ := Kd.R_slice HS2.out.code
              have s7 : w59.cell? ⟨w2.heap.size, 0, none⟩ = some (.slice Ae c2.1.length ce) := (blk_cell HS2.out.box 0).trans rfl
              have s2 : w59.cell? ⟨wo.heap.size, 2, none⟩ = some (.int .i64 b.f2) := (blk_cell HBj.out 2).trans rfl
              by_cases h2 : b.f2 < 0
              · have h2b : decide (b.f2 < 0) = true := decide_eq_true h2
                have H2 := Aside0.mk h2
                clear h2
                go_wp2_with (first | ((with_reducible refine gate_dst (N := 65) rfl ?_); refine Kd.R_lit (Kd.int .u8) (w0 := w) w.heap.size 5 ?hg (N := 65) ?hd (xs := [(0 : Int)]) (inner := [.int .u8 0]) (ok := fun _ => True) (okp := fun _ => True) ?hr ?hp (fun _ hk => hk) trivial HS2.out.below HS2.out.below.size (by simp) ?_; (case hd => rfl); (case hg => rfl); (case hr => first | (go_simp; done) | (go_simp; rfl)); (case hp => exact Reps.one (show Kd.M (Kd.int .u8) _ _ _ 0 [.int .u8 0] from rfl) (Reps.none _ _)); intro v65 w65 hr65 hb65 hg65 _; obtain ⟨A65, c65, rfl⟩ := Kd.R_slice hr65; have hz65 : Below w59.heap.size w59 w65 := ⟨hg65.os, hg65.tape, hg65.output, hg65.size, fun i hi => hg65.block i hi (by simp)⟩; have HS3 := Aside0.mk (HS2.out.step hz65); have R65 := Aside0.mk (Kd.R_reads' hr65).2.2; clear hr65 hb65 hg65 hz65) | ((with_reducible refine gate_builtin (b := .append) (xs := #[.tmp 64, .tmp 65]) rfl ?_); at_builtin; refine Kd.R_append_rows (Kd.int .u8) (Rr := (Kd.int .u8).K w65) (w0 := w) w.heap.size rfl (.tmp 64) (.tmp 65) 37 5 (.int .u8 0) 1 rfl Try.underlying37 info5 rfl (by decide) (by decide) (.slice Ae c2.1.length ce) c2.1 [0] A65 1 c65 (fun _ => True) (fun _ => False) rfl rfl ?aO ?aR (fun _ _ h => h) (fun _ h => h.elim) (fun _ _ => trivial) ?aB ?aS ?aL ?_; (case aR => exact R65.out); (case aB => exact HS3.out.below); (case aO => exact HS3.out.code); (case aS => exact HS3.out.below.size); (case aL => have := HC2L.out.1; omega); intro v66 w66 ho66 hb66 hg66 hat66; have b66 := blk_grown HS3.out.box hg66 (Kd.R_ne HS3.out.code HS3.out.box (by decide)); have r66 : w66.cell? ⟨w2.heap.size, 0, none⟩ = some (.slice Ae c2.1.length ce) := (blk_cell b66 0).trans rfl; have f66 : w66.frozen? ⟨w2.heap.size, 0, none⟩ = false := blk_frozen b66 0; obtain ⟨A66, c66, rfl⟩ := Kd.R_slice ho66; have HSE := Aside0.mk (HS3.out.app ho66 hb66 hg66); clear ho66 hb66 hg66 hat66 b66))
                clear r66 f66 s7 s2
                have EG := Aside0.mk (show genB j b (cd, wt) = (c2.1 ++ [0], c2.2) by rw [← HCW.out]; unfold genThen; rw [if_pos H2.out])
                have HGN := Aside0.mk (by rw [← EG.out]; exact HG1.out : gen ((j + 1 : Nat) : Int) (l1.drop (j + 1)) (bl ++ [(cd.length : Int)]) (c2.1 ++ [0], c2.2) = res)
                have HLN : Aside0 ((c2.1 ++ [0], c2.2).1.length + 3 * stepsN (l1.drop (j + 1)) + 6 * (l1.length - (j + 1)) ≤ 108) := ⟨by have h := genB_len j b (cd, wt); rw [EG.out] at h; have := HL1.out; simp only at h ⊢; omega⟩
                have HWN : Aside0 ((c2.1 ++ [0], c2.2).2.length ≤ 2 * (j + 1)) := ⟨by have h := genB_len j b (cd, wt); rw [EG.out] at h; have := HW.out; simp only at h ⊢; omega⟩
                have HBN : Aside0 ((bl ++ [(cd.length : Int)]).length = j + 1) := ⟨by have := HBL.out; simp; omega⟩
                clear EG
                go_roundw
                case rel => exact ⟨j + 1, _, _, _, _, by omega, by go_num, HGN, HLN, HWN, HBN, by first | exact HSE | exact ⟨by have h := HSE.out; simp only [List.length_append, List.length_cons, List.length_nil, Nat.zero_add, Nat.reduceAdd] at h; exact h⟩⟩
                case measure => simp [intOf]; omega
              · have h2b : decide (b.f2 < 0) = false := decide_eq_false h2
                by_cases h3 : b.f2 = (j : Int) + 1
                · have h3b : (b.f2 != (j : Int) + 1) = false := by simp [h3]
                  have H2 := Aside0.mk h2
                  have H3 := Aside0.mk h3
                  clear h2 h3
                  go_wp2_with fail
                  have HSE := HS2
                  clear s7 s2
                  have EG := Aside0.mk (show genB j b (cd, wt) = c2 by rw [← HCW.out]; unfold genThen; rw [if_neg (show ¬ b.f2 < 0 by have := H2.out; omega), if_neg (by simp [H3.out])])
                  have HGN := Aside0.mk (by rw [← EG.out]; exact HG1.out : gen ((j + 1 : Nat) : Int) (l1.drop (j + 1)) (bl ++ [(cd.length : Int)]) c2 = res)
                  have HLN : Aside0 (c2.1.length + 3 * stepsN (l1.drop (j + 1)) + 6 * (l1.length - (j + 1)) ≤ 108) := ⟨by have h := genB_len j b (cd, wt); rw [EG.out] at h; have := HL1.out; simp only at h ⊢; omega⟩
                  have HWN : Aside0 (c2.2.length ≤ 2 * (j + 1)) := ⟨by have h := genB_len j b (cd, wt); rw [EG.out] at h; have := HW.out; simp only at h ⊢; omega⟩
                  have HBN : Aside0 ((bl ++ [(cd.length : Int)]).length = j + 1) := ⟨by have := HBL.out; simp; omega⟩
                  clear EG
                  go_roundw
                  case rel => exact ⟨j + 1, _, _, _, _, by omega, by go_num, HGN, HLN, HWN, HBN, by first | exact HSE | exact ⟨by have h := HSE.out; simp only [List.length_append, List.length_cons, List.length_nil, Nat.zero_add, Nat.reduceAdd] at h; exact h⟩⟩
                  case measure => simp [intOf]; omega
                · have h3b : (b.f2 != (j : Int) + 1) = true := bne_iff_ne.mpr h3
                  have H2 := Aside0.mk h2
                  have H3 := Aside0.mk h3
                  clear h2 h3
                  go_wp2_with fail
                  refine (mach_Code_1.calls 64 b.f2 w w59 _ _ _ v36 _ _ c2.1 c2.2 HS2.out (by have := HC2L.out.1; omega) (by have := HC2L.out.2; omega) (by omega) (by omega)).mono ?_
                  rintro e w76 ⟨rfl, vc3, h76, o76⟩
                  have HSE := Aside0.mk h76
                  clear h76 o76 s7 s2
                  go_wp2_with fail
                  have EG := Aside0.mk (show genB j b (cd, wt) = (c2.1 ++ [64, 0, 0], c2.2 ++ [((c2.1.length : Int) + 1, b.f2)]) by rw [← HCW.out]; unfold genThen; rw [if_neg (show ¬ b.f2 < 0 by have := H2.out; omega), if_pos H3.out])
                  have HGN := Aside0.mk (by rw [← EG.out]; exact HG1.out : gen ((j + 1 : Nat) : Int) (l1.drop (j + 1)) (bl ++ [(cd.length : Int)]) (c2.1 ++ [64, 0, 0], c2.2 ++ [((c2.1.length : Int) + 1, b.f2)]) = res)
                  have HLN : Aside0 ((c2.1 ++ [64, 0, 0], c2.2 ++ [((c2.1.length : Int) + 1, b.f2)]).1.length + 3 * stepsN (l1.drop (j + 1)) + 6 * (l1.length - (j + 1)) ≤ 108) := ⟨by have h := genB_len j b (cd, wt); rw [EG.out] at h; have := HL1.out; simp only at h ⊢; omega⟩
                  have HWN : Aside0 ((c2.1 ++ [64, 0, 0], c2.2 ++ [((c2.1.length : Int) + 1, b.f2)]).2.length ≤ 2 * (j + 1)) := ⟨by have h := genB_len j b (cd, wt); rw [EG.out] at h; have := HW.out; simp only at h ⊢; omega⟩
                  have HBN : Aside0 ((bl ++ [(cd.length : Int)]).length = j + 1) := ⟨by have := HBL.out; simp; omega⟩
                  clear EG
                  go_roundw
                  case rel => exact ⟨j + 1, _, _, _, _, by omega, by go_num, HGN, HLN, HWN, HBN, by first | exact HSE | exact ⟨by have h := HSE.out; simp only [List.length_append, List.length_cons, List.length_nil, Nat.zero_add, Nat.reduceAdd] at h; exact h⟩⟩
                  case measure => simp [intOf]; omega
            · have hTb : decide (0 ≤ b.f1) = false := decide_eq_false hT
              have hc2' : c2 = (c0, wt) := by rw [hc2]; unfold genTest; rw [if_neg hT]
              obtain ⟨w59, hw59⟩ : ∃ w59 : World, w59 = wr := ⟨_, rfl⟩
              subst hw59
              have HBj := HBi
              have HS2 : Aside0 (CSt w w59 w2.heap.size (w2.heap.size + 1 + 1) (w2.heap.size + 1) v36 vq (bl ++ [(cd.length : Int)]) c2.1 c2.2) := ⟨by rw [hc2']; exact HSx.out⟩
              clear hc0 hc2 hc2' hT
              obtain ⟨Ae, ce, rfl⟩ := Kd.R_slice HS2.out.code
              have s7 : w59.cell? ⟨w2.heap.size, 0, none⟩ = some (.slice Ae c2.1.length ce) := (blk_cell HS2.out.box 0).trans rfl
              have s2 : w59.cell? ⟨wo.heap.size, 2, none⟩ = some (.int .i64 b.f2) := (blk_cell HBj.out 2).trans rfl
              by_cases h2 : b.f2 < 0
              · have h2b : decide (b.f2 < 0) = true := decide_eq_true h2
                have H2 := Aside0.mk h2
                clear h2
                go_wp2_with (first | ((with_reducible refine gate_dst (N := 65) rfl ?_); refine Kd.R_lit (Kd.int .u8) (w0 := w) w.heap.size 5 ?hg (N := 65) ?hd (xs := [(0 : Int)]) (inner := [.int .u8 0]) (ok := fun _ => True) (okp := fun _ => True) ?hr ?hp (fun _ hk => hk) trivial HS2.out.below HS2.out.below.size (by simp) ?_; (case hd => rfl); (case hg => rfl); (case hr => first | (go_simp; done) | (go_simp; rfl)); (case hp => exact Reps.one (show Kd.M (Kd.int .u8) _ _ _ 0 [.int .u8 0] from rfl) (Reps.none _ _)); intro v65 w65 hr65 hb65 hg65 _; obtain ⟨A65, c65, rfl⟩ := Kd.R_slice hr65; have hz65 : Below w59.heap.size w59 w65 := ⟨hg65.os, hg65.tape, hg65.output, hg65.size, fun i hi => hg65.block i hi (by simp)⟩; have HS3 := Aside0.mk (HS2.out.step hz65); have R65 := Aside0.mk (Kd.R_reads' hr65).2.2; clear hr65 hb65 hg65 hz65) | ((with_reducible refine gate_builtin (b := .append) (xs := #[.tmp 64, .tmp 65]) rfl ?_); at_builtin; refine Kd.R_append_rows (Kd.int .u8) (Rr := (Kd.int .u8).K w65) (w0 := w) w.heap.size rfl (.tmp 64) (.tmp 65) 37 5 (.int .u8 0) 1 rfl Try.underlying37 info5 rfl (by decide) (by decide) (.slice Ae c2.1.length ce) c2.1 [0] A65 1 c65 (fun _ => True) (fun _ => False) rfl rfl ?aO ?aR (fun _ _ h => h) (fun _ h => h.elim) (fun _ _ => trivial) ?aB ?aS ?aL ?_; (case aR => exact R65.out); (case aB => exact HS3.out.below); (case aO => exact HS3.out.code); (case aS => exact HS3.out.below.size); (case aL => have := HC2L.out.1; omega); intro v66 w66 ho66 hb66 hg66 hat66; have b66 := blk_grown HS3.out.box hg66 (Kd.R_ne HS3.out.code HS3.out.box (by decide)); have r66 : w66.cell? ⟨w2.heap.size, 0, none⟩ = some (.slice Ae c2.1.length ce) := (blk_cell b66 0).trans rfl; have f66 : w66.frozen? ⟨w2.heap.size, 0, none⟩ = false := blk_frozen b66 0; obtain ⟨A66, c66, rfl⟩ := Kd.R_slice ho66; have HSE := Aside0.mk (HS3.out.app ho66 hb66 hg66); clear ho66 hb66 hg66 hat66 b66))
                clear r66 f66 s7 s2
                have EG := Aside0.mk (show genB j b (cd, wt) = (c2.1 ++ [0], c2.2) by rw [← HCW.out]; unfold genThen; rw [if_pos H2.out])
                have HGN := Aside0.mk (by rw [← EG.out]; exact HG1.out : gen ((j + 1 : Nat) : Int) (l1.drop (j + 1)) (bl ++ [(cd.length : Int)]) (c2.1 ++ [0], c2.2) = res)
                have HLN : Aside0 ((c2.1 ++ [0], c2.2).1.length + 3 * stepsN (l1.drop (j + 1)) + 6 * (l1.length - (j + 1)) ≤ 108) := ⟨by have h := genB_len j b (cd, wt); rw [EG.out] at h; have := HL1.out; simp only at h ⊢; omega⟩
                have HWN : Aside0 ((c2.1 ++ [0], c2.2).2.length ≤ 2 * (j + 1)) := ⟨by have h := genB_len j b (cd, wt); rw [EG.out] at h; have := HW.out; simp only at h ⊢; omega⟩
                have HBN : Aside0 ((bl ++ [(cd.length : Int)]).length = j + 1) := ⟨by have := HBL.out; simp; omega⟩
                clear EG
                go_roundw
                case rel => exact ⟨j + 1, _, _, _, _, by omega, by go_num, HGN, HLN, HWN, HBN, by first | exact HSE | exact ⟨by have h := HSE.out; simp only [List.length_append, List.length_cons, List.length_nil, Nat.zero_add, Nat.reduceAdd] at h; exact h⟩⟩
                case measure => simp [intOf]; omega
              · have h2b : decide (b.f2 < 0) = false := decide_eq_false h2
                by_cases h3 : b.f2 = (j : Int) + 1
                · have h3b : (b.f2 != (j : Int) + 1) = false := by simp [h3]
                  have H2 := Aside0.mk h2
                  have H3 := Aside0.mk h3
                  clear h2 h3
                  go_wp2_with fail
                  have HSE := HS2
                  clear s7 s2
                  have EG := Aside0.mk (show genB j b (cd, wt) = c2 by rw [← HCW.out]; unfold genThen; rw [if_neg (show ¬ b.f2 < 0 by have := H2.out; omega), if_neg (by simp [H3.out])])
                  have HGN := Aside0.mk (by rw [← EG.out]; exact HG1.out : gen ((j + 1 : Nat) : Int) (l1.drop (j + 1)) (bl ++ [(cd.length : Int)]) c2 = res)
                  have HLN : Aside0 (c2.1.length + 3 * stepsN (l1.drop (j + 1)) + 6 * (l1.length - (j + 1)) ≤ 108) := ⟨by have h := genB_len j b (cd, wt); rw [EG.out] at h; have := HL1.out; simp only at h ⊢; omega⟩
                  have HWN : Aside0 (c2.2.length ≤ 2 * (j + 1)) := ⟨by have h := genB_len j b (cd, wt); rw [EG.out] at h; have := HW.out; simp only at h ⊢; omega⟩
                  have HBN : Aside0 ((bl ++ [(cd.length : Int)]).length = j + 1) := ⟨by have := HBL.out; simp; omega⟩
                  clear EG
                  go_roundw
                  case rel => exact ⟨j + 1, _, _, _, _, by omega, by go_num, HGN, HLN, HWN, HBN, by first | exact HSE | exact ⟨by have h := HSE.out; simp only [List.length_append, List.length_cons, List.length_nil, Nat.zero_add, Nat.reduceAdd] at h; exact h⟩⟩
                  case measure => simp [intOf]; omega
                · have h3b : (b.f2 != (j : Int) + 1) = true := bne_iff_ne.mpr h3
                  have H2 := Aside0.mk h2
                  have H3 := Aside0.mk h3
                  clear h2 h3
                  go_wp2_with fail
                  refine (mach_Code_1.calls 64 b.f2 w w59 _ _ _ v36 _ _ c2.1 c2.2 HS2.out (by have := HC2L.out.1; omega) (by have := HC2L.out.2; omega) (by omega) (by omega)).mono ?_
                  rintro e w76 ⟨rfl, vc3, h76, o76⟩
                  have HSE := Aside0.mk h76
                  clear h76 o76 s7 s2
                  go_wp2_with fail
                  have EG := Aside0.mk (show genB j b (cd, wt) = (c2.1 ++ [64, 0, 0], c2.2 ++ [((c2.1.length : Int) + 1, b.f2)]) by rw [← HCW.out]; unfold genThen; rw [if_neg (show ¬ b.f2 < 0 by have := H2.out; omega), if_pos H3.out])
                  have HGN := Aside0.mk (by rw [← EG.out]; exact HG1.out : gen ((j + 1 : Nat) : Int) (l1.drop (j + 1)) (bl ++ [(cd.length : Int)]) (c2.1 ++ [64, 0, 0], c2.2 ++ [((c2.1.length : Int) + 1, b.f2)]) = res)
                  have HLN : Aside0 ((c2.1 ++ [64, 0, 0], c2.2 ++ [((c2.1.length : Int) + 1, b.f2)]).1.length + 3 * stepsN (l1.drop (j + 1)) + 6 * (l1.length - (j + 1)) ≤ 108) := ⟨by have h := genB_len j b (cd, wt); rw [EG.out] at h; have := HL1.out; simp only at h ⊢; omega⟩
                  have HWN : Aside0 ((c2.1 ++ [64, 0, 0], c2.2 ++ [((c2.1.length : Int) + 1, b.f2)]).2.length ≤ 2 * (j + 1)) := ⟨by have h := genB_len j b (cd, wt); rw [EG.out] at h; have := HW.out; simp only at h ⊢; omega⟩
                  have HBN : Aside0 ((bl ++ [(cd.length : Int)]).length = j + 1) := ⟨by have := HBL.out; simp; omega⟩
                  clear EG
                  go_roundw
                  case rel => exact ⟨j + 1, _, _, _, _, by omega, by go_num, HGN, HLN, HWN, HBN, by first | exact HSE | exact ⟨by have h := HSE.out; simp only [List.length_append, List.length_cons, List.length_nil, Nat.zero_add, Nat.reduceAdd] at h; exact h⟩⟩
                  case measure => simp [intOf]; omega
      · have hje : j = l1.length := by omega
        have hge : res = (bl, (cd, wt)) := by have h := HG.out; rw [List.drop_of_length_le (by omega)] at h; exact h.symm
        have HOK : Aside0 (WOk l1.length (cd, wt) ∧ bl.length = l1.length) := ⟨by
          have h := gen_ok l1 0 [] ([], []) HB0.out ⟨fun p hp => absurd hp (by simp), List.Pairwise.nil⟩
          rw [HRES.out, hge] at h
          exact ⟨h.1, by simpa using h.2⟩⟩
        have HCO : Aside0 (codeOf l1 = wt.foldl (patch bl) cd) := ⟨by unfold codeOf; rw [HRES.out, hge]⟩
        have HWTL := HW.out
        have HCDL : cd.length ≤ 108 := by have := HL.out; omega
        have HBLL : bl.length = l1.length := HOK.out.2
        have HBL2 := Aside0.mk HBLL
        have q9 : wr.cell? ⟨w2.heap.size + 1 + 1, 0, none⟩ = some (.map (some (w2.heap.size + 1))) := (blk_cell HS.out.mbox 0).trans rfl
        clear hge HG HL HBLL HRES HSN hje
        go_wp2_with (at_range; refine wpList_range_own _ rfl _ 152 rfl 3 3 keyed3 under152 (plainElem (H := Unit) Try.prog 3) (w2.heap.size + 1) wt.length (mapD wt) rfl HS.out.map ?_; intro w79 hrg hg79 hs79; have HR0 := Aside0.mk (HS.out.ranged hrg hg79); clear hrg hg79 hs79 q9)
        go_frame
        obtain ⟨wo, hwo⟩ : ∃ wo : World, wo = wr := ⟨_, rfl⟩
        subst hwo
        go_loopw [] (fun wx => ∃ (left : Lit → Bool) (cnt : Nat) (cq : List Int), Aside0 (cq = (wt.filter (donePatch left)).foldl (patch bl) cd) ∧ Aside0 (cq.length = cd.length) ∧ Aside0 (RSt w wx w2.heap.size (w2.heap.size + 1) wo.heap.size u8 vc bl cq wt left cnt)) (fun wx => wx.rangeLeft (w2.heap.size + 1) wo.heap.size)
        case atStart => exact ⟨_, _, cd, ⟨by rw [filter_none (mapD_has wt)]; rfl⟩, ⟨rfl⟩, HR0⟩
        case round =>
          clear HR0
          obtain ⟨left, cnt, cq, HCQ, HCL, HR1⟩ := hrel
          have HCNT : Aside0 (wr.rangeLeft (w2.heap.size + 1) wo.heap.size = cnt) := ⟨HR1.out.rng.left_eq⟩
          go_wp2_with (at_next; refine wpList_next_ranges_ii _ rfl _ rfl 3 3 .i64 .i64 keyed3 Try.underlying3 Try.underlying3 (w2.heap.size + 1) wo.heap.size wt.length (mapD wt) left cnt rfl HR1.out.rng ?gDone ?gMore; (case' gDone => intro hc0 hl0; have HL0 := Aside0.mk hl0; clear hc0 hl0; have z7 : wr.cell? ⟨w2.heap.size, 0, none⟩ = some vc := (blk_cell HR1.out.box 0).trans rfl); (case' gMore => intro x c w1 cnt1 hwx hwc hlx hat hrg1 hlt hg1 hs1 hen; have HR2 := Aside0.mk (HR1.out.next hrg1 hg1); have HMEM := Aside0.mk (mapD_at wt hat); have HLX := Aside0.mk hlx; have HLT := Aside0.mk hlt; clear hwx hwc hlx hat hrg1 hlt hg1 hs1))
          · obtain ⟨m1, m2, m3, m4⟩ := HOK.out.1.1 _ HMEM.out
            simp only at m1 m2 m3 m4
            have hx1 : x < (cq.length : Int) := by have := HCL.out; omega
            have hx2 : x + 1 < (cq.length : Int) := by have := HCL.out; omega
            have hx3 : 0 ≤ x + 1 := by omega
            have hc1 : c < (bl.length : Int) := by have := HBL2.out; omega
            have hcl : cq.length ≤ 108 := by have := HCL.out; omega
            have hwx : wrap64 (x + 1) = x + 1 := by unfold wrap64; omega
            clear m2 m4
            obtain ⟨gc, cc, rfl, _, _, _, _⟩ := Kd.R_form HR2.out.code (by omega)
            obtain ⟨gb, cb8, rfl, _, _, _, _⟩ := Kd.R_form HR2.out.begins (by omega)
            have HRd := Aside0.mk HR2.out.drew
            refine start_ (n := 20) (S := fun w' => w'.cell? ⟨w2.heap.size, 0, none⟩ = some (.slice (some ⟨gc, 0, none⟩) cq.length cc) ∧ w'.cell? ⟨gb, c.toNat, none⟩ = some (.int .i64 (rd bl c))) (ds := [19]) #[false, false, false, false, false, false, false, false, false, false, false, false, false, false, false, false, false, false, false, false] (by kernel_rfl) rfl rfl ⟨(blk_cell HRd.out.box 0).trans rfl, (Kd.R_celln (d := (0 : Int)) HRd.out.begins c (by omega) (by omega)).1⟩ (fun hHeld => ?_)
            refine pure_ (i := 1) (N := some 86) (v := ?_) (a' := ?_) #[false, true, false, false, false, false, false, false, false, false, false, false, false, false, false, false, false, false, false, false] rfl rfl (by kernel_rfl) (fun _ _ _ h => h) (Or.inl ⟨by rfl, ?_⟩) ?_ ?_
            rotate_left
            · intro w'
              go_simp
              with_reducible rfl
            rotate_left
            · simp only [Act.put, List.setIfInBounds_toArray, List.set_cons_zero, List.set_cons_succ, i64_w, i32_w]
              rfl
            refine pure_ (i := 3) (N := some 88) (v := ?_) (a' := ?_) #[false, true, false, true, false, false, false, false, false, false, false, false, false, false, false, false, false, false, false, false] rfl rfl (by kernel_rfl) (fun _ _ _ h => h) (Or.inl ⟨by rfl, ?_⟩) ?_ ?_
            rotate_left
            · intro w'
              go_simp
              with_reducible rfl
            rotate_left
            · simp only [Act.put, List.setIfInBounds_toArray, List.set_cons_zero, List.set_cons_succ, i64_w, i32_w]
              rfl
            refine pure_ (i := 4) (N := some 89) (v := ?_) (a' := ?_) #[false, true, false, true, true, false, false, false, false, false, false, false, false, false, false, false, false, false, false, false] rfl rfl (by kernel_rfl) (fun _ _ _ h => h) (Or.inl ⟨by rfl, ?_⟩) ?_ ?_
            rotate_left
            · intro w'
              go_simp
              with_reducible rfl
            rotate_left
            · simp only [Act.put, List.setIfInBounds_toArray, List.set_cons_zero, List.set_cons_succ, i64_w, i32_w]
              rfl
            refine pure_ (i := 5) (N := some 90) (v := ?_) (a' := ?_) #[false, true, false, true, true, true, false, false, false, false, false, false, false, false, false, false, false, false, false, false] rfl rfl (by kernel_rfl) (fun _ _ _ h => h) (Or.inl ⟨by rfl, ?_⟩) ?_ ?_
            rotate_left
            · intro w'
              go_simp
              with_reducible rfl
            rotate_left
            · simp only [Act.put, List.setIfInBounds_toArray, List.set_cons_zero, List.set_cons_succ, i64_w, i32_w]
              rfl
            refine pure_ (i := 6) (N := some 91) (v := ?_) (a' := ?_) #[false, true, false, true, true, true, true, false, false, false, false, false, false, false, false, false, false, false, false, false] rfl rfl (by kernel_rfl) (fun _ _ _ h => h) (Or.inl ⟨by rfl, ?_⟩) ?_ ?_
            rotate_left
            · intro w'
              go_simp
              with_reducible rfl
            rotate_left
            · simp only [Act.put, List.setIfInBounds_toArray, List.set_cons_zero, List.set_cons_succ, i64_w, i32_w]
              rfl
            refine pure_ (i := 7) (N := some 92) (v := ?_) (a' := ?_) #[false, true, false, true, true, true, true, true, false, false, false, false, false, false, false, false, false, false, false, false] rfl rfl (by kernel_rfl) (fun _ _ _ h => h) (Or.inl ⟨by rfl, ?_⟩) ?_ ?_
            rotate_left
            · intro w'
              go_simp
              with_reducible rfl
            rotate_left
            · simp only [Act.put, List.setIfInBounds_toArray, List.set_cons_zero, List.set_cons_succ, i64_w, i32_w]
              rfl
            refine pure_ (i := 10) (N := some 95) (v := ?_) (a' := ?_) #[false, true, false, true, true, true, true, true, false, false, true, false, false, false, false, false, false, false, false, false] rfl rfl (by kernel_rfl) (fun _ _ _ h => h) (Or.inl ⟨by rfl, ?_⟩) ?_ ?_
            rotate_left
            · intro w'
              go_simp
              with_reducible rfl
            rotate_left
            · simp only [Act.put, List.setIfInBounds_toArray, List.set_cons_zero, List.set_cons_succ, i64_w, i32_w]
              rfl
            refine pure_ (i := 11) (N := some 96) (v := ?_) (a' := ?_) #[false, true, false, true, true, true, true, true, false, false, true, true, false, false, false, false, false, false, false, false] rfl rfl (by kernel_rfl) (fun _ _ _ h => h) (Or.inl ⟨by rfl, ?_⟩) ?_ ?_
            rotate_left
            · intro w'
              go_simp
              with_reducible rfl
            rotate_left
            · simp only [Act.put, List.setIfInBounds_toArray, List.set_cons_zero, List.set_cons_succ, i64_w, i32_w]
              rfl
            refine pure_ (i := 12) (N := some 97) (v := ?_) (a' := ?_) #[false, true, false, true, true, true, true, true, false, false, true, true, true, false, false, false, false, false, false, false] rfl rfl (by kernel_rfl) (fun _ _ _ h => h) (Or.inl ⟨by rfl, ?_⟩) ?_ ?_
            rotate_left
            · intro w'
              go_simp
              with_reducible rfl
            rotate_left
            · simp only [Act.put, List.setIfInBounds_toArray, List.set_cons_zero, List.set_cons_succ, i64_w, i32_w]
              rfl
            refine take_ (i := 0) (N := some 85) (v := ?_) (a' := ?_) #[true, true, false, true, true, true, true, true, false, false, true, true, true, false, false, false, false, false, false, false] rfl rfl (by kernel_rfl) (fun _ _ _ h => h) (Or.inl ⟨by rfl, ?_⟩) hHeld ?_ ?_
            rotate_left
            · rintro w' ⟨s0, s1⟩
              go_simp
              with_reducible rfl
            rotate_left
            · simp only [Act.put, List.setIfInBounds_toArray, List.set_cons_zero, List.set_cons_succ, i64_w, i32_w]
              rfl
            refine take_ (i := 2) (N := some 87) (v := ?_) (a' := ?_) #[true, true, true, true, true, true, true, true, false, false, true, true, true, false, false, false, false, false, false, false] rfl rfl (by kernel_rfl) (fun _ _ _ h => h) (Or.inl ⟨by rfl, ?_⟩) hHeld ?_ ?_
            rotate_left
            · rintro w' ⟨s0, s1⟩
              go_simp
              with_reducible rfl
            rotate_left
            · simp only [Act.put, List.setIfInBounds_toArray, List.set_cons_zero, List.set_cons_succ, i64_w, i32_w]
              rfl
            refine take_ (i := 8) (N := some 93) (v := ?_) (a' := ?_) #[true, true, true, true, true, true, true, true, true, false, true, true, true, false, false, false, false, false, false, false] rfl rfl (by kernel_rfl) (fun _ _ _ h => h) (Or.inl ⟨by rfl, ?_⟩) hHeld ?_ ?_
            rotate_left
            · rintro w' ⟨s0, s1⟩
              go_simp
              with_reducible rfl
            rotate_left
            · simp only [Act.put, List.setIfInBounds_toArray, List.set_cons_zero, List.set_cons_succ, i64_w, i32_w]
              rfl
            refine pure_ (i := 9) (N := some 94) (v := ?_) (a' := ?_) #[true, true, true, true, true, true, true, true, true, true, true, true, true, false, false, false, false, false, false, false] rfl rfl (by kernel_rfl) (fun _ _ _ h => h) (Or.inl ⟨by rfl, ?_⟩) ?_ ?_
            rotate_left
            · intro w'
              go_simp
              with_reducible rfl
            rotate_left
            · simp only [Act.put, List.setIfInBounds_toArray, List.set_cons_zero, List.set_cons_succ, i64_w, i32_w]
              rfl
            refine take_ (i := 13) (N := some 98) (v := ?_) (a' := ?_) #[true, true, true, true, true, true, true, true, true, true, true, true, true, true, false, false, false, false, false, false] rfl rfl (by kernel_rfl) (fun _ _ _ h => h) (Or.inl ⟨by rfl, ?_⟩) hHeld ?_ ?_
            rotate_left
            · rintro w' ⟨s0, s1⟩
              go_simp
              with_reducible rfl
            rotate_left
            · simp only [Act.put, List.setIfInBounds_toArray, List.set_cons_zero, List.set_cons_succ, i64_w, i32_w]
              rfl
            refine pure_ (i := 14) (N := some 99) (v := ?_) (a' := ?_) #[true, true, true, true, true, true, true, true, true, true, true, true, true, true, true, false, false, false, false, false] rfl rfl (by kernel_rfl) (fun _ _ _ h => h) (Or.inl ⟨by rfl, ?_⟩) ?_ ?_
            rotate_left
            · intro w'
              go_simp
              with_reducible rfl
            rotate_left
            · simp only [Act.put, List.setIfInBounds_toArray, List.set_cons_zero, List.set_cons_succ, i64_w, i32_w]
              rfl
            refine pure_ (i := 15) (N := some 100) (v := ?_) (a' := ?_) #[true, true, true, true, true, true, true, true, true, true, true, true, true, true, true, true, false, false, false, false] rfl rfl (by kernel_rfl) (fun _ _ _ h => h) (Or.inl ⟨by rfl, ?_⟩) ?_ ?_
            rotate_left
            · intro w'
              go_simp
              with_reducible rfl
            rotate_left
            · simp only [Act.put, List.setIfInBounds_toArray, List.set_cons_zero, List.set_cons_succ, i64_w, i32_w]
              rfl
            refine pure_ (i := 16) (N := some 101) (v := ?_) (a' := ?_) #[true, true, true, true, true, true, true, true, true, true, true, true, true, true, true, true, true, false, false, false] rfl rfl (by kernel_rfl) (fun _ _ _ h => h) (Or.inl ⟨by rfl, ?_⟩) ?_ ?_
            rotate_left
            · intro w'
              go_simp
              with_reducible rfl
            rotate_left
            · simp only [Act.put, List.setIfInBounds_toArray, List.set_cons_zero, List.set_cons_succ, i64_w, i32_w]
              rfl
            refine one_ (i := 17) (N := none) #[true, true, true, true, true, true, true, true, true, true, true, true, true, true, true, true, true, true, false, false] rfl rfl (by kernel_rfl) (by decide) (fun K hK => ?_)
            have z17 := Kd.R_celln (d := (0 : Int)) HRd.out.code x (by omega) (by omega)
            obtain ⟨z17a, z17b⟩ := z17
            refine skip_ (w1 := ?_) (by rfl) rfl ?_ ?_
            rotate_left
            · go_simp
              rfl
            have HR17 := Aside0.mk (HRd.out.put x (IntKind.u8.wrap (rd bl c)))
            clear z17a z17b
            refine hK.out _ _ ⟨(blk_cell HR17.out.box 0).trans rfl, (Kd.R_celln (d := (0 : Int)) HR17.out.begins c (by omega) (by omega)).1⟩ (fun hHeld => ?_)
            clear hK K
            refine pure_ (i := 18) (N := some 102) (v := ?_) (a' := ?_) #[true, true, true, true, true, true, true, true, true, true, true, true, true, true, true, true, true, true, true, false] rfl rfl (by kernel_rfl) (fun _ _ _ h => h) (Or.inl ⟨by rfl, ?_⟩) ?_ ?_
            rotate_left
            · intro w'
              go_simp
              with_reducible rfl
            rotate_left
            · simp only [Act.put, List.setIfInBounds_toArray, List.set_cons_zero, List.set_cons_succ, i64_w, i32_w]
              rfl
            refine last_ (i := 19) (N := none) #[true, true, true, true, true, true, true, true, true, true, true, true, true, true, true, true, true, true, true, true] rfl rfl (by kernel_rfl) (by decide) (fun K hK => ?_)
            have z19 := Kd.R_celln (d := (0 : Int)) HR2.out.code (x + 1) (by omega) (by omega)
            obtain ⟨z19a, z19b⟩ := z19
            refine skip_ (w1 := ?_) (by rfl) rfl ?_ ?_
            rotate_left
            · go_simp
              rfl
            have HR19 := Aside0.mk (HR17.out.put (x + 1) (IntKind.u8.wrap (rd bl c / 256)))
            clear z19a z19b
            refine hK.out _ _ ?_
            clear hK K
            refine done_ (by kernel_rfl) ?_
            have HRZ := Aside0.mk (((HR2.out.put x (IntKind.u8.wrap (rd bl c))).put (x + 1) (IntKind.u8.wrap (rd bl c / 256))).drew)
            clear hwx hx1 hx2 hx3 hc1 hcl HR17 HR19 HRd
            go_wp2
            go_roundw
            case rel => exact ⟨_, _, patch bl cq (x, c), ⟨by rw [patch_next wt (apart_of HOK.out.1) HMEM.out HLX.out, ← HCQ.out]⟩, ⟨by rw [patch_len]; exact HCL.out⟩, ⟨by unfold patch; simp only [← IntKind.wrap_u8]; exact HRZ.out⟩⟩
            case measure => rw [HRZ.out.rng.left_eq, HCNT.out]; exact HLT.out
          · go_ret2
            have hcq : cq = codeOf l1 := by rw [HCO.out, HCQ.out, List.filter_eq_self.2 (fun p _ => by simp [donePatch, HL0.out])]
            exact ⟨_, rfl, by rw [← hcq]; exact HR1.out.code, HR1.out.below⟩
end Go.Proofs.Ytaicamjpcnhjcaa.PA
namespace Go.Proofs.Ytaicamjpcnhjcaa.PA
open Go.RowKit Go.Proofs.YtaicamjpcnhjcaaW.PrintWords Go.Proofs.YtaicamjpcnhjcaaW.PrintLast Go.Proofs.YtaicamjpcnhjcaaW.PrintMore
set_option linter.unusedVariables false
set_option linter.unusedSimpArgs false
def codemasonlaw_MachCodes.j0 : Nat → Int → List (S79) → List Int → List Int → Bool → Option (Bool)
  | 0, _, _, _, _, _ => none
  | k + 1, x0, x1, x2, x7, x40 => if x40 = true then (some false) else ((codemasonref_HaveCheck.f k x0 x2).bind fun t506 => (if t506 = 0 then ((codemasonref_Goes.f k x1 x2 200).bind fun bt507 => (if bt507.2.2 = true then ((codemasonref_Machine.f k x7 x2).bind fun bt514 => (if bt514.2 = 0 then (if 0 ≤ x0 then (if x0 ≤ (bt514.1.length : Int) then ((codemasonref_Ints.f k (bt514.1.take (x0 : Int).toNat) bt507.1).bind fun t522 => (some t522)) else (none)) else (none)) else (some false))) else (some true))) else (some true)))
def codemasonlaw_MachCodes.f (k : Nat) (a0 : Int) (l1 : List (S79)) (l2 : List Int) : Option (Bool) := (mach_Code.f a0 l1).bind fun bt501 => ((codemasonref_ProgCheck.f k a0 l1).bind fun t505 => (if t505 = 0 then (if bt501.2 = 0 then (codemasonlaw_MachCodes.j0 k a0 l1 l2 bt501.1 (decide ((bt501.1.length : Int) > 400))) else (codemasonlaw_MachCodes.j0 k a0 l1 l2 bt501.1 true)) else (if bt501.2 = t505 then (some ((bt501.1.length : Int) == 0)) else (some false))))
theorem codemasonlaw_MachCodes.mono_l : ∀ k, (∀ y0 y1 y2 y3 y4, LeO (codemasonlaw_MachCodes.j0 k y0 y1 y2 y3 y4) (codemasonlaw_MachCodes.j0 (k + 1) y0 y1 y2 y3 y4))
  | 0 => fun _ _ _ _ _ r h => by simp [codemasonlaw_MachCodes.j0] at h
  | k + 1 => by
    have ih0 := codemasonlaw_MachCodes.mono_l k
    · intro y0 y1 y2 y3 y4
      unfold codemasonlaw_MachCodes.j0
      repeat' first
      | (with_reducible exact ih0 _ _ _ _ _)
      | (with_reducible exact codemasonref_Goes.mono _ _ _ _)
      | (with_reducible exact codemasonref_HaveCheck.mono _ _ _)
      | (with_reducible exact codemasonref_Ints.mono _ _ _)
      | (with_reducible exact codemasonref_Machine.mono _ _ _)
      | (with_reducible exact codemasonref_ProgCheck.mono _ _ _)
      | (with_reducible exact LeO.refl _)
      | (with_reducible exact LeO.none _)
      | (with_reducible refine LeO.ite ?_ ?_)
      | (with_reducible refine LeO.bind ?_ (fun _ => ?_))
      | exact ih0 _ _ _ _ _
      | exact codemasonref_Goes.mono _ _ _ _
      | exact codemasonref_HaveCheck.mono _ _ _
      | exact codemasonref_Ints.mono _ _ _
      | exact codemasonref_Machine.mono _ _ _
      | exact codemasonref_ProgCheck.mono _ _ _
      | exact LeO.none _
      | refine LeO.ite ?_ ?_
      | refine LeO.bind ?_ (fun _ => ?_)
theorem codemasonlaw_MachCodes.mono : ∀ a0 a1 a2 k, LeO (codemasonlaw_MachCodes.f k a0 a1 a2) (codemasonlaw_MachCodes.f (k + 1) a0 a1 a2) := by
  intro a0 a1 a2 k
  have ih0 := codemasonlaw_MachCodes.mono_l k
  unfold codemasonlaw_MachCodes.f
  repeat' first
      | (with_reducible exact ih0 _ _ _ _ _)
      | (with_reducible exact codemasonref_Goes.mono _ _ _ _)
      | (with_reducible exact codemasonref_HaveCheck.mono _ _ _)
      | (with_reducible exact codemasonref_Ints.mono _ _ _)
      | (with_reducible exact codemasonref_Machine.mono _ _ _)
      | (with_reducible exact codemasonref_ProgCheck.mono _ _ _)
      | (with_reducible exact LeO.refl _)
      | (with_reducible exact LeO.none _)
      | (with_reducible refine LeO.ite ?_ ?_)
      | (with_reducible refine LeO.bind ?_ (fun _ => ?_))
      | exact ih0 _ _ _ _ _
      | exact codemasonref_Goes.mono _ _ _ _
      | exact codemasonref_HaveCheck.mono _ _ _
      | exact codemasonref_Ints.mono _ _ _
      | exact codemasonref_Machine.mono _ _ _
      | exact codemasonref_ProgCheck.mono _ _ _
      | exact LeO.none _
      | refine LeO.ite ?_ ?_
      | refine LeO.bind ?_ (fun _ => ?_)
set_option maxHeartbeats 8000000 in
set_option maxRecDepth 100000 in
theorem codemasonlaw_MachCodes.calls (k : Nat) (a0 : Int) (A1 : Option Addr) (c1 : Nat) (l1 : List (S79)) (A2 : Option Addr) (c2 : Nat) (l2 : List Int) (r : Bool) (w : World) (hr1 : Kd.C k79 w A1 l1.length l1) (hc1 : l1.length ≤ c1) (hr2 : Kd.C (Kd.int .i64) w A2 l2.length l2) (hc2 : l2.length ≤ c2) (h : codemasonlaw_MachCodes.f k a0 l1 l2 = some r) :
    Calls Try.prog 8 #[.int .i64 a0, .slice A1 l1.length c1, .slice A2 l2.length c2] w fun e w' => e = .returned (.bool r) ∧ Below w.heap.size w w' := by
  have HR1 := Aside0.mk hr1
  have HC1 := Aside0.mk hc1
  clear hr1 hc1
  have HR2 := Aside0.mk hr2
  have HC2 := Aside0.mk hc2
  clear hr2 hc2
  have HB := Aside0.mk (Below.refl w.heap.size w)
  have H : ((mach_Code.f a0 l1).bind fun bt501 => ((codemasonref_ProgCheck.f k a0 l1).bind fun t505 => (if t505 = 0 then (if bt501.2 = 0 then (codemasonlaw_MachCodes.j0 k a0 l1 l2 bt501.1 (decide ((bt501.1.length : Int) > 400))) else (codemasonlaw_MachCodes.j0 k a0 l1 l2 bt501.1 true)) else (if bt501.2 = t505 then (some ((bt501.1.length : Int) == 0)) else (some false))))) = some r := h
  clear h
  replace H := Option.bind_eq_some_iff.mp H
  obtain ⟨⟨t501, t502⟩, A40, H⟩ := H
  replace H : ((codemasonref_ProgCheck.f k a0 l1).bind fun t505 => (if t505 = 0 then (if t502 = 0 then (codemasonlaw_MachCodes.j0 k a0 l1 l2 t501 (decide ((t501.length : Int) > 400))) else (codemasonlaw_MachCodes.j0 k a0 l1 l2 t501 true)) else (if t502 = t505 then (some ((t501.length : Int) == 0)) else (some false)))) = some r := H
  have A4 := Aside0.mk A40
  clear A40
  replace H := Option.bind_eq_some_iff.mp H
  obtain ⟨t505, A50, H⟩ := H
  replace H : (if t505 = 0 then (if t502 = 0 then (codemasonlaw_MachCodes.j0 k a0 l1 l2 t501 (decide ((t501.length : Int) > 400))) else (codemasonlaw_MachCodes.j0 k a0 l1 l2 t501 true)) else (if t502 = t505 then (some ((t501.length : Int) == 0)) else (some false))) = some r := H
  have A5 := Aside0.mk A50
  clear A50
  by_cases c6 : t505 = 0
  · rw [if_pos c6] at H
    have c6b0 : (t505 == 0) = true := beq_iff_eq.mpr c6
    have c6b1 : (t505 != 0) = false := bne_eq_false_iff_eq.mpr c6
    clear c6
    have HC7 := Aside0.mk H
    clear H
    go_enter Try.func8, Try.ntmps8
    go_upto_region 5 with (first | ((with_reducible refine gate_callee (f := 43) rfl ?_); refine goesL_ (some 18) rfl rfl Try.func43 (by kernel_rfl) rfl #[.int .i64 a0, .slice A1 l1.length c1] rfl (by (try simp only [List.map_toArray, List.map_cons, List.map_nil]); first | done | rfl | (simp only [List.length_drop, List.length_take]; rfl)) ?_; (with_reducible refine (mach_Code.calls a0 _ _ l1 t501 t502 _ ?side1 ?side2 A4.out).mono ?_); (case side1 => repeat (first | exact HR1.out | (with_reducible refine Kd.C_alloc ?_ _) | (with_reducible refine Kd.C_drewN ?_ _) | (with_reducible refine Kd.C_drew ?_))); (case side2 => exact HC1.out); rintro e w8 ⟨v503, rfl, ho0, hb⟩; refine ⟨_, rfl, ?_⟩; have n0_ := Aside0.mk (Kd.R_lower ho0 (below_size (by repeat (first | (with_reducible first | exact HB.out | apply below_alloc | apply pw_below_drewN | apply below_drew1) | exact HB.out)))); have n1_ := Aside0.mk (below_step (by repeat (first | (with_reducible first | exact HB.out | apply below_alloc | apply pw_below_drewN | apply below_drew1) | exact HB.out)) hb); clear HB; have HO504 := n0_; have HB := n1_; clear n0_ n1_; (try clear hb); (try clear hb2); (try clear hk); (try clear hi); (try clear ho0)) | ((with_reducible refine gate_callee (f := 22) rfl ?_); refine goesL_ (some 23) rfl rfl Try.func22 (by kernel_rfl) rfl #[.int .i64 a0, .slice A1 l1.length c1] rfl (by (try simp only [List.map_toArray, List.map_cons, List.map_nil]); first | done | rfl | (simp only [List.length_drop, List.length_take]; rfl)) ?_; (with_reducible refine (codemasonref_ProgCheck.calls k a0 _ _ l1 t505 _ ?side1 ?side2 A5.out).mono ?_); (case side1 => repeat (first | exact (Kd.C_below HR1.out HB.out) | (with_reducible refine Kd.C_alloc ?_ _) | (with_reducible refine Kd.C_drewN ?_ _) | (with_reducible refine Kd.C_drew ?_))); (case side2 => exact HC1.out); rintro e w9 ⟨rfl, hb⟩; refine ⟨_, rfl, ?_⟩; have n0_ := Aside0.mk (Kd.R_below (by (with_reducible repeat (first | apply Kd.R_alloc | apply Kd.R_drewN | apply Kd.R_drew)); exact HO504.out) hb); have n1_ := Aside0.mk (below_step (by repeat (first | (with_reducible first | exact HB.out | apply below_alloc | apply pw_below_drewN | apply below_drew1) | exact HB.out)) hb); clear HO504; clear HB; have HO504 := n0_; have HB := n1_; clear n0_ n1_; (try clear hb); (try clear hb2); (try clear hk); (try clear hi)))
    (try simp only [Act.put, List.setIfInBounds_toArray, List.set_cons_zero, List.set_cons_succ])
    go_cut [40] (fun v40 wc => ∃ (kq : Nat) (x40_6 : Bool), v40 = .bool x40_6 ∧ Aside0 (codemasonlaw_MachCodes.j0 kq a0 l1 l2 t501 x40_6 = some r) ∧ Aside0 (kq ≤ k) ∧ Aside0 (Kd.R (Kd.int .u8) 5 wc w.heap.size (fun _ => True) v503 t501) ∧ Aside0 (Below w.heap.size w wc))
    case first =>
      have H := HC7.out
      clear HC7
      by_cases c10 : t502 = 0
      · rw [if_pos c10] at H
        have c10b0 : (t502 == 0) = true := beq_iff_eq.mpr c10
        have c10b1 : (t502 != 0) = false := bne_eq_false_iff_eq.mpr c10
        clear c10
        (first | rw [c10b0] | (simp only [i64_w, i32_w]; rw [c10b0]) | skip)
        have H' := Aside0.mk H
        clear H
        obtain ⟨Ao11, co11, eo11⟩ := Kd.R_slice HO504.out
        subst eo11
        go_wp2
        go_meet
        case rel => exact ⟨_, (decide ((t501.length : Int) > 400)), (by first | rfl | (simp; done) | (simp [*]; done)), H', ⟨by first | omega | exact Nat.le_refl _⟩, ⟨by (with_reducible repeat (first | apply Kd.R_alloc | apply Kd.R_drewN | apply Kd.R_drew)); exact HO504.out⟩, ⟨by repeat (first | (with_reducible first | exact HB.out | apply below_alloc | apply pw_below_drewN | apply below_drew1) | exact HB.out)⟩⟩
      · rw [if_neg c10] at H
        have c10b0 : (t502 == 0) = false := beq_eq_false_iff_ne.mpr c10
        have c10b1 : (t502 != 0) = true := bne_iff_ne.mpr c10
        (first | rw [c10b0] | (simp only [i64_w, i32_w]; rw [c10b0]) | skip)
        have H' := Aside0.mk H
        clear H
        go_wp2
        go_meet
        case rel => exact ⟨_, (true), (by first | rfl | (simp; done) | (simp [*]; done)), H', ⟨by first | omega | exact Nat.le_refl _⟩, ⟨by (with_reducible repeat (first | apply Kd.R_alloc | apply Kd.R_drewN | apply Kd.R_drew)); exact HO504.out⟩, ⟨by repeat (first | (with_reducible first | exact HB.out | apply below_alloc | apply pw_below_drewN | apply below_drew1) | exact HB.out)⟩⟩
    case rest =>
      clear HC7
      try clear c1
      try clear c2
      try clear p2
      try clear c4
      try clear c6
      try clear c6b0
      try clear c6b1
      try clear c8
      try clear c10
      try clear c10b0
      try clear c10b1
      obtain ⟨kq, x40_6, rfl, HA, HJ6, HO_7, HB⟩ := hcut
      cases kq with
      | zero => exact absurd HA.out (by simp [codemasonlaw_MachCodes.j0])
      | succ kj6 =>
        have H := HA.out
        clear HA
        simp only [codemasonlaw_MachCodes.j0] at H
        by_cases c12 : x40_6 = true
        · subst c12
          have H1 : (some false) = some r := by rw [if_pos rfl] at H; exact H
          clear H
          have H := H1
          clear H1
          obtain rfl := Option.some.inj H
          go_wp2
          go_ret
          exact ⟨by first | rfl | (simp [errW_none, errW_some] <;> rfl) | (simp [*, errW_none, errW_some] <;> rfl), by repeat (first | (with_reducible first | exact HB.out | apply below_alloc | apply pw_below_drewN | apply below_drew1) | exact HB.out)⟩
        · replace c12 := Bool.eq_false_iff.mpr c12
          subst c12
          have H1 : ((codemasonref_HaveCheck.f kj6 a0 l2).bind fun t506 => (if t506 = 0 then ((codemasonref_Goes.f kj6 l1 l2 200).bind fun bt507 => (if bt507.2.2 = true then ((codemasonref_Machine.f kj6 t501 l2).bind fun bt514 => (if bt514.2 = 0 then (if 0 ≤ a0 then (if a0 ≤ (bt514.1.length : Int) then ((codemasonref_Ints.f kj6 (bt514.1.take (a0 : Int).toNat) bt507.1).bind fun t522 => (some t522)) else (none)) else (none)) else (some false))) else (some true))) else (some true))) = some r := by rw [if_neg (show ¬ (false = true) by decide)] at H; exact H
          clear H
          have H := H1
          clear H1
          replace H := Option.bind_eq_some_iff.mp H
          obtain ⟨t506, A130, H⟩ := H
          replace H : (if t506 = 0 then ((codemasonref_Goes.f kj6 l1 l2 200).bind fun bt507 => (if bt507.2.2 = true then ((codemasonref_Machine.f kj6 t501 l2).bind fun bt514 => (if bt514.2 = 0 then (if 0 ≤ a0 then (if a0 ≤ (bt514.1.length : Int) then ((codemasonref_Ints.f kj6 (bt514.1.take (a0 : Int).toNat) bt507.1).bind fun t522 => (some t522)) else (none)) else (none)) else (some false))) else (some true))) else (some true)) = some r := H
          have A13 := Aside0.mk A130
          clear A130
          by_cases c14 : t506 = 0
          · rw [if_pos c14] at H
            have c14b0 : (t506 == 0) = true := beq_iff_eq.mpr c14
            have c14b1 : (t506 != 0) = false := bne_eq_false_iff_eq.mpr c14
            clear c14
            replace H := Option.bind_eq_some_iff.mp H
            obtain ⟨⟨t507, t510, t513⟩, A150, H⟩ := H
            replace H : (if t513 = true then ((codemasonref_Machine.f kj6 t501 l2).bind fun bt514 => (if bt514.2 = 0 then (if 0 ≤ a0 then (if a0 ≤ (bt514.1.length : Int) then ((codemasonref_Ints.f kj6 (bt514.1.take (a0 : Int).toNat) t507).bind fun t522 => (some t522)) else (none)) else (none)) else (some false))) else (some true)) = some r := H
            have A15 := Aside0.mk A150
            clear A150
            by_cases c16 : t513 = true
            · subst c16
              have H1 : ((codemasonref_Machine.f kj6 t501 l2).bind fun bt514 => (if bt514.2 = 0 then (if 0 ≤ a0 then (if a0 ≤ (bt514.1.length : Int) then ((codemasonref_Ints.f kj6 (bt514.1.take (a0 : Int).toNat) t507).bind fun t522 => (some t522)) else (none)) else (none)) else (some false))) = some r := by rw [if_pos rfl] at H; exact H
              clear H
              have H := H1
              clear H1
              replace H := Option.bind_eq_some_iff.mp H
              obtain ⟨⟨t514, t515⟩, A170, H⟩ := H
              replace H : (if t515 = 0 then (if 0 ≤ a0 then (if a0 ≤ (t514.length : Int) then ((codemasonref_Ints.f kj6 (t514.take (a0 : Int).toNat) t507).bind fun t522 => (some t522)) else (none)) else (none)) else (some false)) = some r := H
              have A17 := Aside0.mk A170
              clear A170
              by_cases c18 : t515 = 0
              · rw [if_pos c18] at H
                have c18b0 : (t515 == 0) = true := beq_iff_eq.mpr c18
                have c18b1 : (t515 != 0) = false := bne_eq_false_iff_eq.mpr c18
                clear c18
                by_cases c19 : 0 ≤ a0
                · rw [if_pos c19] at H
                  have c19b0 := eq_true c19
                  have c19b1 : decide (0 ≤ a0) = true := decide_eq_true c19
                  clear c19
                  by_cases c20 : a0 ≤ (t514.length : Int)
                  · rw [if_pos c20] at H
                    have c20b0 := eq_true c20
                    have c20b1 : decide (a0 ≤ (t514.length : Int)) = true := decide_eq_true c20
                    clear c20
                    obtain ⟨y518, hy518⟩ : ∃ y_ : List Int, y_ = (t514.take (a0 : Int).toNat) := ⟨_, rfl⟩
                    replace H : ((codemasonref_Ints.f kj6 y518 t507).bind fun t522 => (some t522)) = some r := by first | (rw [hy518]; with_reducible exact H) | (have H2_ := (Option.bind_some _ _).symm.trans H; rw [hy518]; with_reducible exact H2_) | (have H2_ := (Option.bind_some _ _).symm.trans H; with_reducible exact H2_) | with_reducible exact H | (rw [hy518]; exact H) | exact H
                    have Ny518 := Aside0.mk hy518
                    clear hy518
                    replace H := Option.bind_eq_some_iff.mp H
                    obtain ⟨t522, A210, H⟩ := H
                    replace H : (some t522) = some r := H
                    have A21 := Aside0.mk A210
                    clear A210
                    obtain rfl := Option.some.inj H
                    go_wp2_with (first | ((with_reducible refine gate_callee (f := 33) rfl ?_); refine goesL_ (some 43) rfl rfl Try.func33 (by kernel_rfl) rfl #[.int .i64 a0, .slice A2 l2.length c2] rfl (by (try simp only [List.map_toArray, List.map_cons, List.map_nil]); first | done | rfl | (simp only [List.length_drop, List.length_take]; rfl)) ?_; (with_reducible refine (codemasonref_HaveCheck.calls kj6 a0 _ _ l2 t506 _ ?side1 ?side2 A13.out).mono ?_); (case side1 => repeat (first | exact (Kd.C_below HR2.out HB.out) | (with_reducible refine Kd.C_alloc ?_ _) | (with_reducible refine Kd.C_drewN ?_ _) | (with_reducible refine Kd.C_drew ?_))); (case side2 => exact HC2.out); rintro e w' ⟨rfl, ⟨nd, rfl⟩⟩; refine ⟨_, rfl, ?_⟩) | ((with_reducible refine gate_callee (f := 34) rfl ?_); refine goesL_ (some 48) rfl rfl Try.func34 (by kernel_rfl) rfl #[.slice A1 l1.length c1, .slice A2 l2.length c2, .int .i64 200] rfl (by (try simp only [List.map_toArray, List.map_cons, List.map_nil]); first | done | rfl | (simp only [List.length_drop, List.length_take]; rfl)) ?_; (with_reducible refine (codemasonref_Goes.calls kj6 _ _ l1 (fun k_ => k_ < w.heap.size) _ _ l2 200 t507 t510 true _ ?side1 ?side2 ?side3 A15.out).mono ?_); (case side1 => repeat (first | exact (Kd.C_below HR1.out (by repeat (first | (with_reducible first | exact HB.out | apply below_alloc | apply pw_below_drewN | apply below_drew1) | exact HB.out))) | (with_reducible refine Kd.C_alloc ?_ _) | (with_reducible refine Kd.C_drewN ?_ _) | (with_reducible refine Kd.C_drew ?_))); (case side2 => exact HC1.out); (case side3 => exact Kd.V_mk HC2.out (Kd.F_below (Kd.C_F (Kd.heap_int .i64) HR2.out) (by repeat (first | (with_reducible first | exact HB.out | apply below_alloc | apply pw_below_drewN | apply below_drew1) | exact HB.out)))); rintro e w22 ⟨v508, v511, rfl, ho0, ho1, hb⟩; refine ⟨_, rfl, ?_⟩; have n0_ := Aside0.mk (Kd.R_below (by (with_reducible repeat (first | apply Kd.R_alloc | apply Kd.R_drewN | apply Kd.R_drew)); exact HO_7.out) hb); have n1_ := Aside0.mk (Kd.V_lower (Kd.V_mono (ok' := fun k_ => some k_ ≠ (v511 : Value).ownBlock ∧ some k_ ≠ (v503 : Value).ownBlock) ho0 (fun k_ hk_ => ⟨hk_.2, Or.elim hk_.1 (fun hs_ => fun e_ => Nat.not_le.2 hs_ (Kd.R_base HO_7.out k_ e_.symm)) (fun hn_ => (Kd.fresh' (Kd.R_lt (by (with_reducible repeat (first | apply Kd.R_alloc | apply Kd.R_drewN | apply Kd.R_drew)); exact HO_7.out)) k_ hn_))⟩)) (below_size (by repeat (first | (with_reducible first | exact HB.out | apply below_alloc | apply pw_below_drewN | apply below_drew1) | exact HB.out)))); have n2_ := Aside0.mk (Kd.R_lower (Kd.R_mono (ok' := fun k_ => True) ho1 (fun _ hk_ => trivial)) (below_size (by repeat (first | (with_reducible first | exact HB.out | apply below_alloc | apply pw_below_drewN | apply below_drew1) | exact HB.out)))); have n3_ := Aside0.mk (below_step (by repeat (first | (with_reducible first | exact HB.out | apply below_alloc | apply pw_below_drewN | apply below_drew1) | exact HB.out)) hb); clear HO_7; clear HB; have HO_7 := n0_; have HO509 := n1_; have HO512 := n2_; have HB := n3_; clear n0_ n1_ n2_ n3_; (try clear hb); (try clear hb2); (try clear hk); (try clear hi); (try clear ho0); (try clear ho1); obtain ⟨Ao23, co23, eo23⟩ := Kd.R_slice HO_7.out; subst eo23) | ((with_reducible refine gate_callee (f := 44) rfl ?_); refine goesL_ (some 57) rfl rfl Try.func44 (by kernel_rfl) rfl #[.slice Ao23 t501.length co23, .slice A2 l2.length c2] rfl (by (try simp only [List.map_toArray, List.map_cons, List.map_nil]); first | done | rfl | (simp only [List.length_drop, List.length_take]; rfl)) ?_; (with_reducible refine (codemasonref_Machine.calls kj6 _ _ t501 _ _ l2 t514 t515 _ ?side1 ?side2 ?side3 ?side4 A17.out).mono ?_); (case side1 => repeat (first | exact (Kd.R_reads' HO_7.out).2.2 | (with_reducible refine Kd.C_alloc ?_ _) | (with_reducible refine Kd.C_drewN ?_ _) | (with_reducible refine Kd.C_drew ?_))); (case side2 => exact (Kd.R_reads' HO_7.out).2.1); (case side3 => repeat (first | exact (Kd.C_below HR2.out HB.out) | (with_reducible refine Kd.C_alloc ?_ _) | (with_reducible refine Kd.C_drewN ?_ _) | (with_reducible refine Kd.C_drew ?_))); (case side4 => exact HC2.out); rintro e w24 ⟨v516, rfl, ho0, hb⟩; refine ⟨_, rfl, ?_⟩; have n0_ := Aside0.mk (Kd.R_below (by (with_reducible repeat (first | apply Kd.R_alloc | apply Kd.R_drewN | apply Kd.R_drew)); exact HO_7.out) hb); have n1_ := Aside0.mk (Kd.V_elder' (by (with_reducible repeat (first | apply Kd.V_alloc | apply Kd.V_drewN | apply Kd.V_drew)); exact HO509.out) (Kd.R_base ho0) hb); have n2_ := Aside0.mk (Kd.R_elder' (by (with_reducible repeat (first | apply Kd.R_alloc | apply Kd.R_drewN | apply Kd.R_drew)); exact HO512.out) (Kd.R_base ho0) hb); have n3_ := Aside0.mk (Kd.R_lower (Kd.R_new' ho0 (Kd.R_lt (by (with_reducible repeat (first | apply Kd.R_alloc | apply Kd.R_drewN | apply Kd.R_drew)); exact HO512.out))) (below_size (by repeat (first | (with_reducible first | exact HB.out | apply below_alloc | apply pw_below_drewN | apply below_drew1) | exact HB.out)))); have n4_ := Aside0.mk (below_step (by repeat (first | (with_reducible first | exact HB.out | apply below_alloc | apply pw_below_drewN | apply below_drew1) | exact HB.out)) hb); clear HO_7; clear HO509; clear HO512; clear HB; have HO_7 := n0_; have HO509 := n1_; have HO512 := n2_; have HO517 := n3_; have HB := n4_; clear n0_ n1_ n2_ n3_ n4_; (try clear hb); (try clear hb2); (try clear hk); (try clear hi); (try clear ho0); obtain ⟨Ao26, co26, eo26⟩ := Kd.R_slice HO517.out; subst eo26; have q25 : (a0 : Int) ≤ ((t514.length : Int) : Int) := of_decide_eq_true (by first | (with_reducible assumption) | assumption); obtain ⟨i025, hi025, _, hsz25, _⟩ := info_parts info3; have hroom25 : t514.length ≤ co26 := (Kd.R_reads' HO517.out).2.1; have hC25 : Kd.C (Kd.int .i64) _ Ao26 t514.length t514 := (Kd.R_reads' HO517.out).2.2; have hcut25 := cut_to (P := Try.prog) 23 3 .i64 Try.underlying23 hi025 Ao26 t514.length co26 a0 (of_decide_eq_true (by first | (with_reducible assumption) | assumption)) q25 hroom25; have hr25 := Kd.C_take (m := (a0 : Int).toNat) hC25 (by omega); have hy25 : y518.length = (a0 : Int).toNat := (by rw [Ny518.out, List.length_take]; omega); rw [← Ny518.out] at hr25; rw [← hy25] at hcut25; have HR521 := Aside0.mk hr25; have HC521 := Aside0.mk (show y518.length ≤ co26 from by omega); clear hr25 hC25 hroom25 hi025 hsz25; have KY25 := Aside0.mk hy25; clear hy25; have KL25 := Aside0.mk (show (a0 : Int).toNat ≤ t514.length from by omega); replace q25 := eq_true q25; obtain ⟨Ao27, co27, eo27⟩ := Kd.V_slice HO509.out; subst eo27) | (go_at_call 24; (with_reducible refine (codemasonref_Ints.calls kj6 _ _ y518 _ _ t507 t522 _ ?side1 ?side2 ?side3 ?side4 A21.out).mono ?_); (case side1 => repeat (first | exact (by repeat (first | (with_reducible exact HR521.out) | (with_reducible refine Kd.C_alloc ?_ _) | (with_reducible refine Kd.C_drewN ?_ _) | (with_reducible refine Kd.C_drew ?_) | exact HR521.out)) | (with_reducible refine Kd.C_alloc ?_ _) | (with_reducible refine Kd.C_drewN ?_ _) | (with_reducible refine Kd.C_drew ?_))); (case side2 => exact HC521.out); (case side3 => repeat (first | exact (Kd.V_reads' HO509.out).2.2 | (with_reducible refine Kd.C_alloc ?_ _) | (with_reducible refine Kd.C_drewN ?_ _) | (with_reducible refine Kd.C_drew ?_))); (case side4 => exact (Kd.V_reads' HO509.out).2.1); rintro e w' ⟨rfl, ⟨nd, rfl⟩⟩))
                    go_ret
                    exact ⟨by first | rfl | (simp [errW_none, errW_some] <;> rfl) | (simp [*, errW_none, errW_some] <;> rfl), by repeat (first | (with_reducible first | exact HB.out | apply below_alloc | apply pw_below_drewN | apply below_drew1) | exact HB.out)⟩
                  · rw [if_neg c20] at H
                    exact absurd H (by simp)
                · rw [if_neg c19] at H
                  exact absurd H (by simp)
              · rw [if_neg c18] at H
                have c18b0 : (t515 == 0) = false := beq_eq_false_iff_ne.mpr c18
                have c18b1 : (t515 != 0) = true := bne_iff_ne.mpr c18
                obtain rfl := Option.some.inj H
                go_wp2_with (first | ((with_reducible refine gate_callee (f := 33) rfl ?_); refine goesL_ (some 43) rfl rfl Try.func33 (by kernel_rfl) rfl #[.int .i64 a0, .slice A2 l2.length c2] rfl (by (try simp only [List.map_toArray, List.map_cons, List.map_nil]); first | done | rfl | (simp only [List.length_drop, List.length_take]; rfl)) ?_; (with_reducible refine (codemasonref_HaveCheck.calls kj6 a0 _ _ l2 t506 _ ?side1 ?side2 A13.out).mono ?_); (case side1 => repeat (first | exact (Kd.C_below HR2.out HB.out) | (with_reducible refine Kd.C_alloc ?_ _) | (with_reducible refine Kd.C_drewN ?_ _) | (with_reducible refine Kd.C_drew ?_))); (case side2 => exact HC2.out); rintro e w' ⟨rfl, ⟨nd, rfl⟩⟩; refine ⟨_, rfl, ?_⟩) | ((with_reducible refine gate_callee (f := 34) rfl ?_); refine goesL_ (some 48) rfl rfl Try.func34 (by kernel_rfl) rfl #[.slice A1 l1.length c1, .slice A2 l2.length c2, .int .i64 200] rfl (by (try simp only [List.map_toArray, List.map_cons, List.map_nil]); first | done | rfl | (simp only [List.length_drop, List.length_take]; rfl)) ?_; (with_reducible refine (codemasonref_Goes.calls kj6 _ _ l1 (fun k_ => k_ < w.heap.size) _ _ l2 200 t507 t510 true _ ?side1 ?side2 ?side3 A15.out).mono ?_); (case side1 => repeat (first | exact (Kd.C_below HR1.out (by repeat (first | (with_reducible first | exact HB.out | apply below_alloc | apply pw_below_drewN | apply below_drew1) | exact HB.out))) | (with_reducible refine Kd.C_alloc ?_ _) | (with_reducible refine Kd.C_drewN ?_ _) | (with_reducible refine Kd.C_drew ?_))); (case side2 => exact HC1.out); (case side3 => exact Kd.V_mk HC2.out (Kd.F_below (Kd.C_F (Kd.heap_int .i64) HR2.out) (by repeat (first | (with_reducible first | exact HB.out | apply below_alloc | apply pw_below_drewN | apply below_drew1) | exact HB.out)))); rintro e w28 ⟨v508, v511, rfl, ho0, ho1, hb⟩; refine ⟨_, rfl, ?_⟩; have n0_ := Aside0.mk (Kd.R_below (by (with_reducible repeat (first | apply Kd.R_alloc | apply Kd.R_drewN | apply Kd.R_drew)); exact HO_7.out) hb); have n1_ := Aside0.mk (Kd.V_lower (Kd.V_mono (ok' := fun k_ => some k_ ≠ (v511 : Value).ownBlock ∧ some k_ ≠ (v503 : Value).ownBlock) ho0 (fun k_ hk_ => ⟨hk_.2, Or.elim hk_.1 (fun hs_ => fun e_ => Nat.not_le.2 hs_ (Kd.R_base HO_7.out k_ e_.symm)) (fun hn_ => (Kd.fresh' (Kd.R_lt (by (with_reducible repeat (first | apply Kd.R_alloc | apply Kd.R_drewN | apply Kd.R_drew)); exact HO_7.out)) k_ hn_))⟩)) (below_size (by repeat (first | (with_reducible first | exact HB.out | apply below_alloc | apply pw_below_drewN | apply below_drew1) | exact HB.out)))); have n2_ := Aside0.mk (Kd.R_lower (Kd.R_mono (ok' := fun k_ => True) ho1 (fun _ hk_ => trivial)) (below_size (by repeat (first | (with_reducible first | exact HB.out | apply below_alloc | apply pw_below_drewN | apply below_drew1) | exact HB.out)))); have n3_ := Aside0.mk (below_step (by repeat (first | (with_reducible first | exact HB.out | apply below_alloc | apply pw_below_drewN | apply below_drew1) | exact HB.out)) hb); clear HO_7; clear HB; have HO_7 := n0_; have HO509 := n1_; have HO512 := n2_; have HB := n3_; clear n0_ n1_ n2_ n3_; (try clear hb); (try clear hb2); (try clear hk); (try clear hi); (try clear ho0); (try clear ho1); obtain ⟨Ao29, co29, eo29⟩ := Kd.R_slice HO_7.out; subst eo29) | ((with_reducible refine gate_callee (f := 44) rfl ?_); refine goesL_ (some 57) rfl rfl Try.func44 (by kernel_rfl) rfl #[.slice Ao29 t501.length co29, .slice A2 l2.length c2] rfl (by (try simp only [List.map_toArray, List.map_cons, List.map_nil]); first | done | rfl | (simp only [List.length_drop, List.length_take]; rfl)) ?_; (with_reducible refine (codemasonref_Machine.calls kj6 _ _ t501 _ _ l2 t514 t515 _ ?side1 ?side2 ?side3 ?side4 A17.out).mono ?_); (case side1 => repeat (first | exact (Kd.R_reads' HO_7.out).2.2 | (with_reducible refine Kd.C_alloc ?_ _) | (with_reducible refine Kd.C_drewN ?_ _) | (with_reducible refine Kd.C_drew ?_))); (case side2 => exact (Kd.R_reads' HO_7.out).2.1); (case side3 => repeat (first | exact (Kd.C_below HR2.out HB.out) | (with_reducible refine Kd.C_alloc ?_ _) | (with_reducible refine Kd.C_drewN ?_ _) | (with_reducible refine Kd.C_drew ?_))); (case side4 => exact HC2.out); rintro e w30 ⟨v516, rfl, ho0, hb⟩; refine ⟨_, rfl, ?_⟩; have n0_ := Aside0.mk (Kd.R_below (by (with_reducible repeat (first | apply Kd.R_alloc | apply Kd.R_drewN | apply Kd.R_drew)); exact HO_7.out) hb); have n1_ := Aside0.mk (Kd.V_elder' (by (with_reducible repeat (first | apply Kd.V_alloc | apply Kd.V_drewN | apply Kd.V_drew)); exact HO509.out) (Kd.R_base ho0) hb); have n2_ := Aside0.mk (Kd.R_elder' (by (with_reducible repeat (first | apply Kd.R_alloc | apply Kd.R_drewN | apply Kd.R_drew)); exact HO512.out) (Kd.R_base ho0) hb); have n3_ := Aside0.mk (Kd.R_lower (Kd.R_new' ho0 (Kd.R_lt (by (with_reducible repeat (first | apply Kd.R_alloc | apply Kd.R_drewN | apply Kd.R_drew)); exact HO512.out))) (below_size (by repeat (first | (with_reducible first | exact HB.out | apply below_alloc | apply pw_below_drewN | apply below_drew1) | exact HB.out)))); have n4_ := Aside0.mk (below_step (by repeat (first | (with_reducible first | exact HB.out | apply below_alloc | apply pw_below_drewN | apply below_drew1) | exact HB.out)) hb); clear HO_7; clear HO509; clear HO512; clear HB; have HO_7 := n0_; have HO509 := n1_; have HO512 := n2_; have HO517 := n3_; have HB := n4_; clear n0_ n1_ n2_ n3_ n4_; (try clear hb); (try clear hb2); (try clear hk); (try clear hi); (try clear ho0)))
                go_ret
                exact ⟨by first | rfl | (simp [errW_none, errW_some] <;> rfl) | (simp [*, errW_none, errW_some] <;> rfl), by repeat (first | (with_reducible first | exact HB.out | apply below_alloc | apply pw_below_drewN | apply below_drew1) | exact HB.out)⟩
            · replace c16 := Bool.eq_false_iff.mpr c16
              subst c16
              have H1 : (some true) = some r := by rw [if_neg (show ¬ (false = true) by decide)] at H; exact H
              clear H
              have H := H1
              clear H1
              obtain rfl := Option.some.inj H
              go_wp2_with (first | ((with_reducible refine gate_callee (f := 33) rfl ?_); refine goesL_ (some 43) rfl rfl Try.func33 (by kernel_rfl) rfl #[.int .i64 a0, .slice A2 l2.length c2] rfl (by (try simp only [List.map_toArray, List.map_cons, List.map_nil]); first | done | rfl | (simp only [List.length_drop, List.length_take]; rfl)) ?_; (with_reducible refine (codemasonref_HaveCheck.calls kj6 a0 _ _ l2 t506 _ ?side1 ?side2 A13.out).mono ?_); (case side1 => repeat (first | exact (Kd.C_below HR2.out HB.out) | (with_reducible refine Kd.C_alloc ?_ _) | (with_reducible refine Kd.C_drewN ?_ _) | (with_reducible refine Kd.C_drew ?_))); (case side2 => exact HC2.out); rintro e w' ⟨rfl, ⟨nd, rfl⟩⟩; refine ⟨_, rfl, ?_⟩) | ((with_reducible refine gate_callee (f := 34) rfl ?_); refine goesL_ (some 48) rfl rfl Try.func34 (by kernel_rfl) rfl #[.slice A1 l1.length c1, .slice A2 l2.length c2, .int .i64 200] rfl (by (try simp only [List.map_toArray, List.map_cons, List.map_nil]); first | done | rfl | (simp only [List.length_drop, List.length_take]; rfl)) ?_; (with_reducible refine (codemasonref_Goes.calls kj6 _ _ l1 (fun k_ => k_ < w.heap.size) _ _ l2 200 t507 t510 false _ ?side1 ?side2 ?side3 A15.out).mono ?_); (case side1 => repeat (first | exact (Kd.C_below HR1.out (by repeat (first | (with_reducible first | exact HB.out | apply below_alloc | apply pw_below_drewN | apply below_drew1) | exact HB.out))) | (with_reducible refine Kd.C_alloc ?_ _) | (with_reducible refine Kd.C_drewN ?_ _) | (with_reducible refine Kd.C_drew ?_))); (case side2 => exact HC1.out); (case side3 => exact Kd.V_mk HC2.out (Kd.F_below (Kd.C_F (Kd.heap_int .i64) HR2.out) (by repeat (first | (with_reducible first | exact HB.out | apply below_alloc | apply pw_below_drewN | apply below_drew1) | exact HB.out)))); rintro e w31 ⟨v508, v511, rfl, ho0, ho1, hb⟩; refine ⟨_, rfl, ?_⟩; have n0_ := Aside0.mk (Kd.R_below (by (with_reducible repeat (first | apply Kd.R_alloc | apply Kd.R_drewN | apply Kd.R_drew)); exact HO_7.out) hb); have n1_ := Aside0.mk (Kd.V_lower (Kd.V_mono (ok' := fun k_ => some k_ ≠ (v511 : Value).ownBlock ∧ some k_ ≠ (v503 : Value).ownBlock) ho0 (fun k_ hk_ => ⟨hk_.2, Or.elim hk_.1 (fun hs_ => fun e_ => Nat.not_le.2 hs_ (Kd.R_base HO_7.out k_ e_.symm)) (fun hn_ => (Kd.fresh' (Kd.R_lt (by (with_reducible repeat (first | apply Kd.R_alloc | apply Kd.R_drewN | apply Kd.R_drew)); exact HO_7.out)) k_ hn_))⟩)) (below_size (by repeat (first | (with_reducible first | exact HB.out | apply below_alloc | apply pw_below_drewN | apply below_drew1) | exact HB.out)))); have n2_ := Aside0.mk (Kd.R_lower (Kd.R_mono (ok' := fun k_ => True) ho1 (fun _ hk_ => trivial)) (below_size (by repeat (first | (with_reducible first | exact HB.out | apply below_alloc | apply pw_below_drewN | apply below_drew1) | exact HB.out)))); have n3_ := Aside0.mk (below_step (by repeat (first | (with_reducible first | exact HB.out | apply below_alloc | apply pw_below_drewN | apply below_drew1) | exact HB.out)) hb); clear HO_7; clear HB; have HO_7 := n0_; have HO509 := n1_; have HO512 := n2_; have HB := n3_; clear n0_ n1_ n2_ n3_; (try clear hb); (try clear hb2); (try clear hk); (try clear hi); (try clear ho0); (try clear ho1)))
              go_ret
              exact ⟨by first | rfl | (simp [errW_none, errW_some] <;> rfl) | (simp [*, errW_none, errW_some] <;> rfl), by repeat (first | (with_reducible first | exact HB.out | apply below_alloc | apply pw_below_drewN | apply below_drew1) | exact HB.out)⟩
          · rw [if_neg c14] at H
            have c14b0 : (t506 == 0) = false := beq_eq_false_iff_ne.mpr c14
            have c14b1 : (t506 != 0) = true := bne_iff_ne.mpr c14
            obtain rfl := Option.some.inj H
            go_wp2_with (first | ((with_reducible refine gate_callee (f := 33) rfl ?_); refine goesL_ (some 43) rfl rfl Try.func33 (by kernel_rfl) rfl #[.int .i64 a0, .slice A2 l2.length c2] rfl (by (try simp only [List.map_toArray, List.map_cons, List.map_nil]); first | done | rfl | (simp only [List.length_drop, List.length_take]; rfl)) ?_; (with_reducible refine (codemasonref_HaveCheck.calls kj6 a0 _ _ l2 t506 _ ?side1 ?side2 A13.out).mono ?_); (case side1 => repeat (first | exact (Kd.C_below HR2.out HB.out) | (with_reducible refine Kd.C_alloc ?_ _) | (with_reducible refine Kd.C_drewN ?_ _) | (with_reducible refine Kd.C_drew ?_))); (case side2 => exact HC2.out); rintro e w' ⟨rfl, ⟨nd, rfl⟩⟩; refine ⟨_, rfl, ?_⟩))
            go_ret
            exact ⟨by first | rfl | (simp [errW_none, errW_some] <;> rfl) | (simp [*, errW_none, errW_some] <;> rfl), by repeat (first | (with_reducible first | exact HB.out | apply below_alloc | apply pw_below_drewN | apply below_drew1) | exact HB.out)⟩
  · rw [if_neg c6] at H
    have c6b0 : (t505 == 0) = false := beq_eq_false_iff_ne.mpr c6
    have c6b1 : (t505 != 0) = true := bne_iff_ne.mpr c6
    by_cases c32 : t502 = t505
    · rw [if_pos c32] at H
      have c32b0 : (t502 == t505) = true := beq_iff_eq.mpr c32
      have c32b1 : (t502 != t505) = false := bne_eq_false_iff_eq.mpr c32
      clear c32
      obtain rfl := Option.some.inj H
      go_enter Try.func8, Try.ntmps8
      go_wp2_with (first | ((with_reducible refine gate_callee (f := 43) rfl ?_); refine goesL_ (some 18) rfl rfl Try.func43 (by kernel_rfl) rfl #[.int .i64 a0, .slice A1 l1.length c1] rfl (by (try simp only [List.map_toArray, List.map_cons, List.map_nil]); first | done | rfl | (simp only [List.length_drop, List.length_take]; rfl)) ?_; (with_reducible refine (mach_Code.calls a0 _ _ l1 t501 t502 _ ?side1 ?side2 A4.out).mono ?_); (case side1 => repeat (first | exact HR1.out | (with_reducible refine Kd.C_alloc ?_ _) | (with_reducible refine Kd.C_drewN ?_ _) | (with_reducible refine Kd.C_drew ?_))); (case side2 => exact HC1.out); rintro e w33 ⟨v503, rfl, ho0, hb⟩; refine ⟨_, rfl, ?_⟩; have n0_ := Aside0.mk (Kd.R_lower ho0 (below_size (by repeat (first | (with_reducible first | exact HB.out | apply below_alloc | apply pw_below_drewN | apply below_drew1) | exact HB.out)))); have n1_ := Aside0.mk (below_step (by repeat (first | (with_reducible first | exact HB.out | apply below_alloc | apply pw_below_drewN | apply below_drew1) | exact HB.out)) hb); clear HB; have HO504 := n0_; have HB := n1_; clear n0_ n1_; (try clear hb); (try clear hb2); (try clear hk); (try clear hi); (try clear ho0)) | ((with_reducible refine gate_callee (f := 22) rfl ?_); refine goesL_ (some 23) rfl rfl Try.func22 (by kernel_rfl) rfl #[.int .i64 a0, .slice A1 l1.length c1] rfl (by (try simp only [List.map_toArray, List.map_cons, List.map_nil]); first | done | rfl | (simp only [List.length_drop, List.length_take]; rfl)) ?_; (with_reducible refine (codemasonref_ProgCheck.calls k a0 _ _ l1 t505 _ ?side1 ?side2 A5.out).mono ?_); (case side1 => repeat (first | exact (Kd.C_below HR1.out HB.out) | (with_reducible refine Kd.C_alloc ?_ _) | (with_reducible refine Kd.C_drewN ?_ _) | (with_reducible refine Kd.C_drew ?_))); (case side2 => exact HC1.out); rintro e w34 ⟨rfl, hb⟩; refine ⟨_, rfl, ?_⟩; have n0_ := Aside0.mk (Kd.R_below (by (with_reducible repeat (first | apply Kd.R_alloc | apply Kd.R_drewN | apply Kd.R_drew)); exact HO504.out) hb); have n1_ := Aside0.mk (below_step (by repeat (first | (with_reducible first | exact HB.out | apply below_alloc | apply pw_below_drewN | apply below_drew1) | exact HB.out)) hb); clear HO504; clear HB; have HO504 := n0_; have HB := n1_; clear n0_ n1_; (try clear hb); (try clear hb2); (try clear hk); (try clear hi); obtain ⟨Ao35, co35, eo35⟩ := Kd.R_slice HO504.out; subst eo35))
      go_ret
      exact ⟨by first | rfl | (simp [errW_none, errW_some] <;> rfl) | (simp [*, errW_none, errW_some] <;> rfl), by repeat (first | (with_reducible first | exact HB.out | apply below_alloc | apply pw_below_drewN | apply below_drew1) | exact HB.out)⟩
    · rw [if_neg c32] at H
      have c32b0 : (t502 == t505) = false := beq_eq_false_iff_ne.mpr c32
      have c32b1 : (t502 != t505) = true := bne_iff_ne.mpr c32
      obtain rfl := Option.some.inj H
      go_enter Try.func8, Try.ntmps8
      go_wp2_with (first | ((with_reducible refine gate_callee (f := 43) rfl ?_); refine goesL_ (some 18) rfl rfl Try.func43 (by kernel_rfl) rfl #[.int .i64 a0, .slice A1 l1.length c1] rfl (by (try simp only [List.map_toArray, List.map_cons, List.map_nil]); first | done | rfl | (simp only [List.length_drop, List.length_take]; rfl)) ?_; (with_reducible refine (mach_Code.calls a0 _ _ l1 t501 t502 _ ?side1 ?side2 A4.out).mono ?_); (case side1 => repeat (first | exact HR1.out | (with_reducible refine Kd.C_alloc ?_ _) | (with_reducible refine Kd.C_drewN ?_ _) | (with_reducible refine Kd.C_drew ?_))); (case side2 => exact HC1.out); rintro e w36 ⟨v503, rfl, ho0, hb⟩; refine ⟨_, rfl, ?_⟩; have n0_ := Aside0.mk (Kd.R_lower ho0 (below_size (by repeat (first | (with_reducible first | exact HB.out | apply below_alloc | apply pw_below_drewN | apply below_drew1) | exact HB.out)))); have n1_ := Aside0.mk (below_step (by repeat (first | (with_reducible first | exact HB.out | apply below_alloc | apply pw_below_drewN | apply below_drew1) | exact HB.out)) hb); clear HB; have HO504 := n0_; have HB := n1_; clear n0_ n1_; (try clear hb); (try clear hb2); (try clear hk); (try clear hi); (try clear ho0)) | ((with_reducible refine gate_callee (f := 22) rfl ?_); refine goesL_ (some 23) rfl rfl Try.func22 (by kernel_rfl) rfl #[.int .i64 a0, .slice A1 l1.length c1] rfl (by (try simp only [List.map_toArray, List.map_cons, List.map_nil]); first | done | rfl | (simp only [List.length_drop, List.length_take]; rfl)) ?_; (with_reducible refine (codemasonref_ProgCheck.calls k a0 _ _ l1 t505 _ ?side1 ?side2 A5.out).mono ?_); (case side1 => repeat (first | exact (Kd.C_below HR1.out HB.out) | (with_reducible refine Kd.C_alloc ?_ _) | (with_reducible refine Kd.C_drewN ?_ _) | (with_reducible refine Kd.C_drew ?_))); (case side2 => exact HC1.out); rintro e w37 ⟨rfl, hb⟩; refine ⟨_, rfl, ?_⟩; have n0_ := Aside0.mk (Kd.R_below (by (with_reducible repeat (first | apply Kd.R_alloc | apply Kd.R_drewN | apply Kd.R_drew)); exact HO504.out) hb); have n1_ := Aside0.mk (below_step (by repeat (first | (with_reducible first | exact HB.out | apply below_alloc | apply pw_below_drewN | apply below_drew1) | exact HB.out)) hb); clear HO504; clear HB; have HO504 := n0_; have HB := n1_; clear n0_ n1_; (try clear hb); (try clear hb2); (try clear hk); (try clear hi)))
      go_ret
      exact ⟨by first | rfl | (simp [errW_none, errW_some] <;> rfl) | (simp [*, errW_none, errW_some] <;> rfl), by repeat (first | (with_reducible first | exact HB.out | apply below_alloc | apply pw_below_drewN | apply below_drew1) | exact HB.out)⟩
end Go.Proofs.Ytaicamjpcnhjcaa.PA
