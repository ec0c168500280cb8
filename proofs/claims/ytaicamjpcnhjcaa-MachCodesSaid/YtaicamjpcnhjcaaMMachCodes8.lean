/- Texts of one proof, merged: Pu11, PureMachCodes. -/
import Derived.Test.YtaicamjpcnhjcaaMMachCodes7
namespace Go.Proofs.Ytaicamjpcnhjcaa.PA
open Go.RowKit Go.Proofs.YtaicamjpcnhjcaaW.PrintWords Go.Proofs.YtaicamjpcnhjcaaW.PrintLast Go.Proofs.YtaicamjpcnhjcaaW.PrintMore
set_option linter.unusedVariables false
set_option linter.unusedSimpArgs false
def lohi (bl : List Int) (i : Int) : List Int := [rd bl i % 256, rd bl i / 256 % 256]
def testBytes (bl : List Int) (b : S79) : List Int := if b.f1 ≥ 0 then (72 + b.f1) :: lohi bl b.f3 else []
def thenBytes (bl : List Int) (i : Int) (b : S79) : List Int := if b.f2 < 0 then [0] else if b.f2 ≠ i + 1 then 64 :: lohi bl b.f2 else []
def blockBytes (bl : List Int) (i : Int) (b : S79) : List Int := b.f0.flatMap stepB ++ testBytes bl b ++ thenBytes bl i b
def allBytes (bl : List Int) : Int → List S79 → List Int
  | _, [] => []
  | i, b :: t => blockBytes bl i b ++ allBytes bl (i + 1) t
def beg (bl : List Int) : Int → Int → List S79 → List Int
  | _, _, [] => []
  | a, i, b :: t => a :: beg bl (a + (blockBytes bl i b).length) (i + 1) t
def PP (bl : List Int) (c : CW) : List Int := c.2.foldl (patch bl) c.1
theorem fold_len (bl : List Int) : ∀ (w : List (Int × Int)) (cd : List Int), (w.foldl (patch bl) cd).length = cd.length
  | [], _ => rfl
  | p :: w, cd => by rw [List.foldl_cons, fold_len bl w, patch_len]
theorem patch_append {bl cd l : List Int} {p : Int × Int} (h0 : 0 ≤ p.1) (h : p.1 + 2 ≤ cd.length) : patch bl (cd ++ l) p = patch bl cd p ++ l := by
  unfold patch
  rw [List.set_append_left _ _ (by omega), List.set_append_left _ _ (by rw [List.length_set]; omega)]
theorem fold_append {bl l : List Int} : ∀ (w : List (Int × Int)) (cd : List Int), (∀ p ∈ w, 0 ≤ p.1 ∧ p.1 + 2 ≤ cd.length) → w.foldl (patch bl) (cd ++ l) = w.foldl (patch bl) cd ++ l
  | [], _, _ => rfl
  | p :: w, cd, h => by
    rw [List.foldl_cons, List.foldl_cons, patch_append (h p (by simp)).1 (h p (by simp)).2]
    exact fold_append w _ (fun q hq => by rw [patch_len]; exact h q (List.mem_cons_of_mem _ hq))
theorem PP_more {n : Int} {c : CW} (bl : List Int) (h : WOk n c) (l : List Int) : PP bl (c.1 ++ l, c.2) = PP bl c ++ l :=
  fold_append c.2 c.1 (fun p hp => ⟨(h.1 p hp).1, (h.1 p hp).2.1⟩)
theorem PP_len (bl : List Int) (c : CW) : (PP bl c).length = c.1.length := fold_len bl c.2 c.1
theorem PP_place {n : Int} {c : CW} (bl : List Int) (h : WOk n c) (o i : Int) : PP bl (c.1 ++ [o, 0, 0], c.2 ++ [((c.1.length : Int) + 1, i)]) = PP bl c ++ (o :: lohi bl i) := by
  have h1 := PP_more bl h [o, 0, 0]
  have h2 := PP_len bl c
  unfold PP at h1 h2 ⊢
  simp only at h1 ⊢
  rw [List.foldl_append, h1]
  show patch bl _ _ = _
  generalize List.foldl (patch bl) c.1 c.2 = q at h2
  unfold patch lohi
  simp only
  rw [List.set_append_right _ _ (by omega), List.set_append_right _ _ (by omega), show ((c.1.length : Int) + 1).toNat - q.length = 1 by omega, show ((c.1.length : Int) + 1 + 1).toNat - q.length = 2 by omega]
  rfl
theorem PP_block {v n i : Int} {b : S79} {c : CW} (bl : List Int) (hb : blockErr v n b = 0) (h : WOk n c) : PP bl (genB i b c) = PP bl c ++ blockBytes bl i b := by
  obtain ⟨b1, b2, ⟨b3, b4⟩, b5⟩ := block_bounds' hb
  have h0 := h.more (b.f0.flatMap stepB)
  have e0 := PP_more bl h (b.f0.flatMap stepB)
  have h1 : WOk n (genTest b (c.1 ++ b.f0.flatMap stepB, c.2)) ∧ PP bl (genTest b (c.1 ++ b.f0.flatMap stepB, c.2)) = PP bl c ++ (b.f0.flatMap stepB ++ testBytes bl b) := by
    unfold genTest testBytes
    split
    · exact ⟨h0.place (b5 ‹_›).2 _, by rw [PP_place bl h0, e0, List.append_assoc]⟩
    · exact ⟨h0, by rw [e0, List.append_nil]⟩
  unfold genB genThen blockBytes thenBytes
  generalize genTest b (c.1 ++ b.f0.flatMap stepB, c.2) = d at h1
  split
  · rw [PP_more bl h1.1, h1.2]; simp only [List.append_assoc]
  · split
    · rw [PP_place bl h1.1, h1.2]; simp only [List.append_assoc]
    · rw [h1.2]; simp only [List.append_assoc, List.append_nil]
theorem gen_bytes {v n : Int} (bl : List Int) : ∀ (l : List S79) (i : Int) (bl0 : List Int) (c : CW), blocksErr v n l = 0 → WOk n c → PP bl (gen i l bl0 c).2 = PP bl c ++ allBytes bl i l ∧ (gen i l bl0 c).1 = bl0 ++ beg bl c.1.length i l
  | [], _, _, _, _, _ => by simp [gen, allBytes, beg]
  | b :: t, i, bl0, c, hb, h => by
    rw [blocksErr] at hb
    by_cases e : blockErr v n b ≠ 0
    · rw [if_pos e] at hb; exact absurd hb e
    · rw [if_neg e] at hb
      have e0 : blockErr v n b = 0 := by simpa using e
      have hp := PP_block bl (i := i) e0 h
      have hl : ((genB i b c).1.length : Int) = c.1.length + (blockBytes bl i b).length := by
        have := congrArg List.length hp
        rw [PP_len, List.length_append, PP_len] at this
        omega
      obtain ⟨i1, i2⟩ := gen_bytes bl t (i + 1) (bl0 ++ [(c.1.length : Int)]) (genB i b c) hb (genB_ok e0 h)
      rw [gen, i1, i2, hp, allBytes, beg, hl]
      simp [List.append_assoc]
def At (pc : List Int) (a : Int) (bs : List Int) : Prop := ∃ pre post, pc = pre ++ bs ++ post ∧ (pre.length : Int) = a
theorem At.left {pc x y : List Int} {a : Int} (h : At pc a (x ++ y)) : At pc a x := by
  obtain ⟨pre, post, h1, h2⟩ := h
  exact ⟨pre, y ++ post, by rw [h1]; simp [List.append_assoc], h2⟩
theorem At.right {pc x y : List Int} {a : Int} (h : At pc a (x ++ y)) : At pc (a + x.length) y := by
  obtain ⟨pre, post, h1, h2⟩ := h
  exact ⟨pre ++ x, post, by rw [h1]; simp [List.append_assoc], by rw [List.length_append]; omega⟩
theorem At.rd {pc bs : List Int} {a : Int} (h : At pc a bs) (t : Nat) (ht : t < bs.length) : Go.Proofs.YtaicamjpcnhjcaaW.PrintWords.rd pc (a + t) = bs.getD t 0 ∧ 0 ≤ a ∧ a + t < pc.length := by
  obtain ⟨pre, post, h1, h2⟩ := h
  have hl : pc.length = pre.length + bs.length + post.length := by rw [h1]; simp [Nat.add_assoc]
  refine ⟨?_, by omega, by omega⟩
  unfold Go.Proofs.YtaicamjpcnhjcaaW.PrintWords.rd
  rw [h1, List.append_assoc, List.getD_eq_getElem?_getD, List.getElem?_append_right (by omega), List.getElem?_append_left (by omega), List.getD_eq_getElem?_getD, show (a + (t : Int)).toNat - pre.length = t by omega]
theorem seg_at (bl : List Int) : ∀ (l : List S79) (i a : Int) (j : Nat), j < l.length → ∃ pre post, allBytes bl i l = pre ++ blockBytes bl (i + j) (l.getD j z79) ++ post ∧ (pre.length : Int) + a = (beg bl a i l).getD j 0 ∧ (j + 1 < l.length → (beg bl a i l).getD (j + 1) 0 = (beg bl a i l).getD j 0 + (blockBytes bl (i + j) (l.getD j z79)).length)
  | [], _, _, _, h => absurd h (by simp)
  | b :: t, i, a, 0, _ => by
    refine ⟨[], allBytes bl (i + 1) t, by simp [allBytes], by simp [beg], fun h => ?_⟩
    cases t with
    | nil => simp at h
    | cons b2 t => simp [beg]
  | b :: t, i, a, j + 1, h => by
    obtain ⟨pre, post, h1, h2, h3⟩ := seg_at bl t (i + 1) (a + (blockBytes bl i b).length) j (by simpa using h)
    have e : i + ((j + 1 : Nat) : Int) = i + 1 + j := by omega
    refine ⟨blockBytes bl i b ++ pre, post, ?_, ?_, fun h => ?_⟩
    · rw [e, allBytes, h1]; simp [List.append_assoc]
    · rw [List.length_append]
      show _ = (beg bl (a + (blockBytes bl i b).length) (i + 1) t).getD j 0
      omega
    · rw [e]
      exact h3 (by simpa using h)
theorem stepB_ok {n : Int} (hn : n ≤ 6) {s : S111} (h : okStep n s) : stepB s = if s.f0 = 1 then [8, s.f4, 24 + s.f1] else if s.f0 = 2 then [16 + s.f4, 24 + s.f1] else [16 + s.f2, 8 * (s.f0 + 1) + s.f3, 24 + s.f1] := by
  obtain ⟨h1, h2, h3, h4, h5, h6⟩ := okStep_parts h
  unfold stepB mach_step.f
  have e1 : wrap64 (24 + s.f1) % 256 = 24 + s.f1 := by rw [wrap_in (by omega) (by omega)]; omega
  rw [e1]
  by_cases c1 : s.f0 = 1
  · rw [if_pos c1, if_pos c1]
    have := h4 c1
    rw [show s.f4 % 256 = s.f4 by omega]; rfl
  · rw [if_neg c1, if_neg c1]
    by_cases c2 : s.f0 = 2
    · rw [if_pos c2, if_pos c2]
      have := h5 c2
      rw [wrap_in (x := 16 + s.f4) (by omega) (by omega), show (16 + s.f4) % 256 = 16 + s.f4 by omega]; rfl
    · rw [if_neg c2, if_neg c2]
      have := h6 (by omega)
      rw [wrap_in (x := 16 + s.f2) (by omega) (by omega), show (16 + s.f2) % 256 = 16 + s.f2 by omega, wrap_in (x := s.f0 - 3) (by omega) (by omega), wrap_in (x := s.f0 - 3 + 4) (by omega) (by omega), wrap_in (x := (s.f0 - 3 + 4) * 8) (by omega) (by omega), wrap_in (x := (s.f0 - 3 + 4) * 8 + s.f3) (by omega) (by omega), show ((s.f0 - 3 + 4) * 8 + s.f3) % 256 = 8 * (s.f0 + 1) + s.f3 by omega]; rfl
theorem rd_left' {v e : List Int} {i : Int} (h0 : 0 ≤ i) (h : i < v.length) : rd (v ++ e) i = rd v i := by
  unfold rd
  rw [List.getD_eq_getElem?_getD, List.getD_eq_getElem?_getD, List.getElem?_append_left (by omega)]
theorem step_run {n : Int} (hn : n ≤ 6) {s : S111} (h : okStep n s) {v z pc : List Int} (hv : vals n v) {a b : Int} (ha : At pc a (stepB s)) : ∃ m b', m ≤ 3 ∧ MR pc m (v ++ z) a b (doStep v s ++ z) (a + (stepB s).length) b' := by
  obtain ⟨h1, h2, h3, h4, h5, h6⟩ := okStep_parts h
  have hl := hv.1
  have fin : ∀ y, (v ++ z).set s.f1.toNat y = v.set s.f1.toNat y ++ z := fun y => List.set_append_left _ _ (by omega)
  rw [stepB_ok hn h] at ha ⊢
  unfold doStep stepV
  by_cases c1 : s.f0 = 1
  · rw [if_pos c1] at ha ⊢
    rw [if_pos c1]
    obtain ⟨r0, a0, a0'⟩ := ha.rd 0 (by simp)
    obtain ⟨r1, _, a1'⟩ := ha.rd 1 (by simp)
    obtain ⟨r2, _, a2'⟩ := ha.rd 2 (by simp)
    simp only [Int.natCast_zero, Int.add_zero, Int.natCast_one, List.getD_cons_zero, List.getD_cons_succ] at r0 r1 r2 a0' a1'
    refine ⟨2, s.f4, by omega, .step (.num a0 a1' r0) (.step (c1 := v.set s.f1.toNat s.f4 ++ z) (a1 := a + 3) (b1 := s.f4) ?_ (.refl _ _ _))⟩
    rw [r1, ← fin]
    have := MStep.put (c := v ++ z) (b := s.f4) (show 0 ≤ a + 2 by omega) (by simpa using a2') ⟨h3.1, by omega⟩ (by simpa using r2)
    rw [show a + 2 + 1 = a + 3 by omega] at this
    exact this
  · rw [if_neg c1] at ha ⊢
    rw [if_neg c1]
    by_cases c2 : s.f0 = 2
    · rw [if_pos c2] at ha ⊢
      rw [if_pos c2]
      have h5' := h5 c2
      obtain ⟨r0, a0, a0'⟩ := ha.rd 0 (by simp)
      obtain ⟨r1, _, a1'⟩ := ha.rd 1 (by simp)
      simp only [Int.natCast_zero, Int.add_zero, Int.natCast_one, List.getD_cons_zero, List.getD_cons_succ] at r0 r1 a0' a1'
      refine ⟨2, rd v s.f4, by omega, .step (.get a0 a0' ⟨h5'.1, by omega⟩ r0) (.step (c1 := v.set s.f1.toNat (rd v s.f4) ++ z) (a1 := a + 2) (b1 := rd v s.f4) ?_ (.refl _ _ _))⟩
      rw [rd_left' h5'.1 (by omega), ← fin]
      have := MStep.put (c := v ++ z) (b := rd v s.f4) (show 0 ≤ a + 1 by omega) a1' ⟨h3.1, by omega⟩ r1
      rw [show a + 1 + 1 = a + 2 by omega] at this
      exact this
    · rw [if_neg c2] at ha ⊢
      rw [if_neg c2]
      have h6' := h6 (by omega)
      obtain ⟨r0, a0, a0'⟩ := ha.rd 0 (by simp)
      obtain ⟨r1, _, a1'⟩ := ha.rd 1 (by simp)
      obtain ⟨r2, _, a2'⟩ := ha.rd 2 (by simp)
      simp only [Int.natCast_zero, Int.add_zero, Int.natCast_one, List.getD_cons_zero, List.getD_cons_succ] at r0 r1 r2 a0' a1'
      have t2 := vals_rd hv s.f2
      have t3 := vals_rd hv s.f3
      have e3 : rd (v ++ z) s.f3 = rd v s.f3 := rd_left' h6'.2.1 (by omega)
      refine ⟨3, opv s.f0 (rd v s.f2) (rd v s.f3), by omega, .step (.get a0 a0' ⟨h6'.1.1, by omega⟩ r0) (.step (c1 := v ++ z) (a1 := a + 2) (b1 := opv s.f0 (rd v s.f2) (rd v s.f3)) ?_ (.step (c1 := v.set s.f1.toNat (opv s.f0 (rd v s.f2) (rd v s.f3)) ++ z) (a1 := a + 3) (b1 := opv s.f0 (rd v s.f2) (rd v s.f3)) ?_ (.refl _ _ _)))⟩
      · rw [rd_left' h6'.1.1 (by omega), ← e3]
        have := MStep.op (c := v ++ z) (b := rd v s.f2) (o := s.f0) (show 0 ≤ a + 1 by omega) a1' ⟨h6'.2.1, by omega⟩ ⟨by omega, by omega⟩ r1 t2 (by rw [e3]; exact t3)
        rw [show a + 1 + 1 = a + 2 by omega] at this
        exact this
      · rw [← fin]
        have := MStep.put (c := v ++ z) (b := opv s.f0 (rd v s.f2) (rd v s.f3)) (show 0 ≤ a + 2 by omega) (by simpa using a2') ⟨h3.1, by omega⟩ (by simpa using r2)
        rw [show a + 2 + 1 = a + 3 by omega] at this
        exact this
theorem steps_run {n : Int} (hn : n ≤ 6) {z pc : List Int} : ∀ (l : List S111) (v : List Int) (a b : Int), (∀ s ∈ l, okStep n s) → vals n v → 0 ≤ a → At pc a (l.flatMap stepB) → ∃ m b', m ≤ 3 * l.length ∧ MR pc m (v ++ z) a b (doing l v ++ z) (a + (l.flatMap stepB).length) b'
  | [], v, a, b, _, _, _, _ => ⟨0, b, by simp, by simpa [doing] using MR.refl (v ++ z) a b⟩
  | s :: l, v, a, b, h, hv, h0, ha => by
    rw [List.flatMap_cons] at ha ⊢
    obtain ⟨m1, b1, hm1, r1⟩ := step_run hn (h s (by simp)) (z := z) hv (b := b) ha.left
    obtain ⟨m2, b2, hm2, r2⟩ := steps_run hn l (doStep v s) (a + (stepB s).length) b1 (fun x hx => h x (List.mem_cons_of_mem _ hx)) (doStep_vals (h s (by simp)) hv) (by omega) ha.right
    refine ⟨m1 + m2, b2, by simp; omega, ?_⟩
    have := r1.trans r2
    rw [doing_cons, List.length_append, Int.natCast_add, ← Int.add_assoc]
    exact this
def Lands (pc bl : List Int) (next a : Int) : Prop := if next = -1 then 0 ≤ a ∧ a < pc.length ∧ rd pc a = 0 else a = rd bl next
theorem addr_of {x : Int} (h0 : 0 ≤ x) (h : x < 65536) : x % 256 + 256 * (x / 256 % 256) = x := by omega
theorem block_run {n m j : Int} (hn : n ≤ 6) {b : S79} (hb : OkB n m b) {v z pc bl : List Int} (hv : vals n v) {a b0 : Int} (ha : At pc a (blockBytes bl j b)) (h0 : 0 ≤ a) (hj : b.f2 = j + 1 → rd bl (j + 1) = a + (blockBytes bl j b).length) (hbl : ∀ i, 0 ≤ rd bl i ∧ rd bl i < 65536) :
    ∃ k a' b', k ≤ 3 * b.f0.length + 2 ∧ MR pc k (v ++ z) a b0 (doing b.f0 v ++ z) a' b' ∧ Lands pc bl (nextOf b (doing b.f0 v)) a' := by
  unfold blockBytes at ha hj
  obtain ⟨k1, b1, hk1, r1⟩ := steps_run hn b.f0 (z := z) v a b0 hb.steps hv h0 ha.left.left
  have hA := ha.left.right
  have hB := ha.right
  have hv1 := (doing_vals hb.steps hv)
  have hl := hv1.1
  have h3 := hb.lo
  have h4 := hb.hi
  have h5 := hb.nxt
  have h6 := hb.els
  rw [List.length_append, Int.natCast_add, ← Int.add_assoc] at hB
  rw [List.length_append, List.length_append, Int.natCast_add, Int.natCast_add, ← Int.add_assoc, ← Int.add_assoc] at hj
  generalize a + ((b.f0.flatMap stepB).length : Int) = a1 at hA hB hj r1
  generalize doing b.f0 v = u at r1 hv1 hl
  have tail : ∀ a2 : Int, At pc a2 (thenBytes bl j b) → (b.f2 = j + 1 → rd bl (j + 1) = a2 + (thenBytes bl j b).length) → ∃ k a' b', k ≤ 1 ∧ MR pc k (u ++ z) a2 b1 (u ++ z) a' b' ∧ Lands pc bl b.f2 a' := by
    intro a2 hT hq
    unfold thenBytes at hT hq
    unfold Lands
    by_cases c1 : b.f2 < 0
    · rw [if_pos c1] at hT
      obtain ⟨q0, q1, q2⟩ := hT.rd 0 (by simp)
      simp only [Int.natCast_zero, Int.add_zero, List.getD_cons_zero] at q0 q2
      refine ⟨0, a2, b1, by omega, .refl _ _ _, ?_⟩
      rw [if_pos (by omega)]
      exact ⟨q1, q2, q0⟩
    · rw [if_neg c1] at hT hq
      simp only [if_neg (show ¬ b.f2 = -1 by omega)]
      by_cases c2 : b.f2 = j + 1
      · rw [if_neg (by simp [c2])] at hq
        refine ⟨0, a2, b1, by omega, .refl _ _ _, ?_⟩
        have := hq c2
        rw [c2, this]; simp
      · rw [if_pos c2] at hT
        unfold lohi at hT
        obtain ⟨q0, p0, _⟩ := hT.rd 0 (by simp)
        obtain ⟨q1, _, _⟩ := hT.rd 1 (by simp)
        obtain ⟨q2, _, p2⟩ := hT.rd 2 (by simp)
        simp only [Int.natCast_zero, Int.add_zero, Int.natCast_one, List.getD_cons_zero, List.getD_cons_succ] at q0 q1 q2
        have hs := MStep.go (pc := pc) (c := u ++ z) (b := b1) p0 (by simpa using p2) q0
        have e2 : rd pc (a2 + 2) = rd bl b.f2 / 256 % 256 := by simpa using q2
        rw [q1, e2, addr_of (hbl _).1 (hbl _).2] at hs
        exact ⟨1, _, b1, by omega, .one hs, rfl⟩
  unfold testBytes at hA hB hj
  unfold nextOf
  by_cases c1 : b.f1 ≥ 0
  · rw [if_pos c1] at hA hB hj
    rw [if_pos c1]
    have hl3 : ((((72 + b.f1) :: lohi bl b.f3).length : Nat) : Int) = 3 := by simp [lohi]
    rw [hl3] at hB hj
    unfold lohi at hA
    obtain ⟨q0, p0, _⟩ := hA.rd 0 (by simp)
    obtain ⟨q1, _, _⟩ := hA.rd 1 (by simp)
    obtain ⟨q2, _, p2⟩ := hA.rd 2 (by simp)
    simp only [Int.natCast_zero, Int.add_zero, Int.natCast_one, List.getD_cons_zero, List.getD_cons_succ] at q0 q1 q2
    have e2 : rd pc (a1 + 2) = rd bl b.f3 / 256 % 256 := by simpa using q2
    have er : rd (u ++ z) b.f1 = rd u b.f1 := rd_left' c1 (by omega)
    by_cases c2 : rd u b.f1 = 0
    · rw [if_pos c2]
      have hs := MStep.zero (pc := pc) (c := u ++ z) (b := b1) p0 (by simpa using p2) ⟨c1, by omega⟩ q0 (by rw [er]; exact c2)
      rw [q1, e2, addr_of (hbl _).1 (hbl _).2] at hs
      refine ⟨k1 + 1, _, b1, by omega, r1.trans (.one hs), ?_⟩
      unfold Lands
      rw [if_neg (by have := h6 c1; omega)]
    · rw [if_neg c2]
      have hs := MStep.more (pc := pc) (c := u ++ z) (b := b1) p0 (by simpa using p2) ⟨c1, by omega⟩ q0 (by rw [er]; exact c2)
      obtain ⟨k, a', b', hk, r2, hL⟩ := tail (a1 + 3) hB hj
      exact ⟨k1 + 1 + k, a', b', by omega, (r1.trans (.one hs)).trans r2, hL⟩
  · rw [if_neg c1] at hA hB hj
    rw [if_neg c1]
    simp only [List.length_nil, Int.natCast_zero, Int.add_zero] at hB hj
    obtain ⟨k, a', b', hk, r2, hL⟩ := tail a1 hB hj
    exact ⟨k1 + k, a', b', by omega, r1.trans r2, hL⟩
structure CodeOk (n : Int) (p : List S79) (pc bl : List Int) : Prop where
  len : pc.length ≤ 400
  bytes : ∀ i, 0 ≤ rd pc i ∧ rd pc i ≤ 255
  begs : ∀ i, 0 ≤ rd bl i ∧ rd bl i < 65536
  seg : ∀ j : Nat, j < p.length → At pc (rd bl j) (blockBytes bl j (p.getD j z79)) ∧ (j + 1 < p.length → rd bl ((j : Int) + 1) = rd bl j + (blockBytes bl j (p.getD j z79)).length)
  first : rd bl 0 = 0
theorem prog_run {n : Int} (hn : n ≤ 6) {p : List S79} (hp : OkP n p) (hs : ∀ b ∈ p, b.f0.length ≤ 20) {pc bl z : List Int} (hc : CodeOk n p pc bl) : ∀ (m : Nat) (at_ : Int) (v was : List Int) (a b : Int), vals n v → (at_ = -1 ∨ 0 ≤ at_ ∧ at_ < p.length) → Lands pc bl at_ a → (goN p m at_ v was).2.2 = true →
    ∃ k a' b', k ≤ 62 * m ∧ MR pc k (v ++ z) a b ((goN p m at_ v was).1 ++ z) a' b' ∧ Lands pc bl (-1) a' := by
  intro m
  induction m with
  | zero =>
    intro at_ v was a b hv ha hL h
    rw [goN] at h ⊢
    by_cases e : at_ = -1
    · rw [if_pos e]; subst e; exact ⟨0, a, b, by omega, .refl _ _ _, hL⟩
    · rw [if_neg e] at h; exact absurd h (by simp)
  | succ m ih =>
    intro at_ v was a b hv ha hL h
    rw [goN] at h ⊢
    by_cases e : at_ = -1
    · rw [if_pos e]; subst e; exact ⟨0, a, b, by omega, .refl _ _ _, hL⟩
    · rw [if_neg e] at h ⊢
      have ha2 : 0 ≤ at_ ∧ at_ < p.length := by omega
      have hmem := rdT79_mem ha2.1 ha2.2
      have hb := hp _ hmem
      obtain ⟨t, rfl⟩ : ∃ t : Nat, at_ = t := ⟨at_.toNat, by omega⟩
      obtain ⟨g1, g2⟩ := hc.seg t (by omega)
      unfold Lands at hL
      rw [if_neg e] at hL
      subst hL
      obtain ⟨k1, a1, b1, hk1, r1, hL1⟩ := block_run hn hb (z := z) hv (b0 := b) g1 (hc.begs _).1 (fun h2 => g2 (by
        have h3 := hb.nxt
        rw [rdT79_nat] at h2 h3
        omega)) hc.begs
      obtain ⟨k2, a2, b2, hk2, r2, hL2⟩ := ih _ _ _ a1 b1 (doing_vals hb.steps hv) (nextOf_ok hb _) hL1 h
      have := hs _ hmem
      exact ⟨k1 + k2, a2, b2, by omega, r1.trans r2, hL2⟩
theorem code_runs {n : Int} (h1 : 1 ≤ n) (hn : n ≤ 6) {p : List S79} (hp : OkP n p) (hp1 : 1 ≤ p.length) (hs : ∀ b ∈ p, b.f0.length ≤ 20) {pc bl : List Int} (hc : CodeOk n p pc bl) {v : List Int} (hv : vals n v) (h : (goN p 200 0 v []).2.2 = true) :
    Ev (fun k => codemasonref_Machine.f k pc v) ((goN p 200 0 v []).1 ++ List.replicate (6 - v.length) 0, 0) := by
  have hl := hv.1
  refine machine_ev (by omega) ?_
  obtain ⟨k, a, b, hk, r, hL⟩ := prog_run hn hp hs (z := List.replicate (6 - v.length) 0) hc 200 0 v [] 0 0 hv (.inr ⟨Int.le_refl _, by omega⟩) (by unfold Lands; rw [if_neg (by decide), hc.first]) h
  unfold Lands at hL
  rw [if_pos rfl] at hL
  refine mr_ev (by have := hc.len; omega) hc.bytes r 0 (by simp; omega) (by decide) (by omega) ?_
  exact stop_ev (by have := hc.len; omega) hL.1 hL.2.1 hL.2.2 ⟨by omega, by omega⟩
theorem bytes_block {n m j : Int} (hn : n ≤ 6) {b : S79} (hb : OkB n m b) (bl : List Int) : ∀ x ∈ blockBytes bl j b, 0 ≤ x ∧ x ≤ 255 := by
  have lh : ∀ i, ∀ x ∈ lohi bl i, 0 ≤ x ∧ x ≤ 255 := fun i x hx => by
    have : x = rd bl i % 256 ∨ x = rd bl i / 256 % 256 := by simpa [lohi] using hx
    omega
  have h3 := hb.lo
  have h4 := hb.hi
  intro x hx
  unfold blockBytes testBytes thenBytes at hx
  rcases List.mem_append.1 hx with hx | hx
  · rcases List.mem_append.1 hx with hx | hx
    · obtain ⟨s, hs, hx⟩ := List.mem_flatMap.1 hx
      have hok := hb.steps s hs
      obtain ⟨k1, k2, k3, k4, k5, k6⟩ := okStep_parts hok
      rw [stepB_ok hn hok] at hx
      split at hx
      · have := k4 ‹_›
        have hx : x = 8 ∨ x = s.f4 ∨ x = 24 + s.f1 := by simpa using hx
        omega
      · split at hx
        · have := k5 ‹_›
          have hx : x = 16 + s.f4 ∨ x = 24 + s.f1 := by simpa using hx
          omega
        · have := k6 (by omega)
          have hx : x = 16 + s.f2 ∨ x = 8 * (s.f0 + 1) + s.f3 ∨ x = 24 + s.f1 := by simpa using hx
          omega
    · split at hx
      · rcases List.mem_cons.1 hx with hx | hx
        · omega
        · exact lh _ _ hx
      · simp at hx
  · split at hx
    · have : x = 0 := by simpa using hx
      omega
    · split at hx
      · rcases List.mem_cons.1 hx with hx | hx
        · omega
        · exact lh _ _ hx
      · simp at hx
theorem bytes_all {n m : Int} (hn : n ≤ 6) (bl : List Int) : ∀ (l : List S79) (i : Int), (∀ b ∈ l, OkB n m b) → ∀ x ∈ allBytes bl i l, 0 ≤ x ∧ x ≤ 255
  | [], _, _, x, hx => by simp [allBytes] at hx
  | b :: t, i, h, x, hx => by
    rw [allBytes] at hx
    rcases List.mem_append.1 hx with hx | hx
    · exact bytes_block hn (h b (by simp)) bl x hx
    · exact bytes_all hn bl t (i + 1) (fun y hy => h y (List.mem_cons_of_mem _ hy)) x hx
theorem block_len (bl : List Int) (i : Int) (b : S79) : (blockBytes bl i b).length ≤ 3 * b.f0.length + 6 := by
  have h := flat_len b.f0
  unfold blockBytes testBytes thenBytes lohi
  generalize b.f0.flatMap stepB = f at h
  split <;> split <;> (try split) <;> simp only [List.length_append, List.length_cons, List.length_nil] <;> omega
theorem all_len (bl : List Int) : ∀ (l : List S79) (i : Int), (allBytes bl i l).length ≤ 3 * stepsN l + 6 * l.length
  | [], _ => by simp [allBytes]
  | b :: t, i => by
    have h1 := block_len bl i b
    have h2 := all_len bl t (i + 1)
    rw [allBytes, List.length_append, stepsN, List.length_cons]
    omega
theorem beg_range (bl : List Int) : ∀ (l : List S79) (i a : Int), 0 ≤ a → ∀ x ∈ beg bl a i l, 0 ≤ x ∧ x ≤ a + 3 * stepsN l + 6 * l.length
  | [], _, _, _, x, hx => by simp [beg] at hx
  | b :: t, i, a, h0, x, hx => by
    have h1 := block_len bl i b
    rw [beg] at hx
    rw [stepsN, List.length_cons]
    rcases List.mem_cons.1 hx with rfl | hx
    · omega
    · have := beg_range bl t (i + 1) _ (by omega) x hx
      omega
theorem stepsN_eq : ∀ l : List S79, (stepsN l : Int) = stepsOf l
  | [] => rfl
  | b :: t => by rw [stepsN, stepsOf_cons, ← stepsN_eq t]; omega
theorem rd_mem {P : Int → Prop} {l : List Int} (h0 : P 0) (h : ∀ x ∈ l, P x) (i : Int) : P (rd l i) := by
  unfold rd
  rw [List.getD_eq_getElem?_getD]
  cases e : l[i.toNat]? with
  | none => exact h0
  | some x => exact h x (List.mem_of_getElem? e)
theorem code_ok {n : Int} (hn : n ≤ 6) {p : List S79} (hp : OkP n p) (hp1 : 1 ≤ p.length) (hp8 : p.length ≤ 8) (hs : stepsN p ≤ 20) : ∃ bl, CodeOk n p (codeOf p) bl := by
  have hb0 : blocksErr n p.length p = 0 := blocksErr_zero (fun b hb => okB_err (hp b hb))
  have hw : WOk p.length ([], []) := ⟨fun p hp => absurd hp (by simp), List.Pairwise.nil⟩
  obtain ⟨g1, g2⟩ := gen_bytes (gen 0 p [] ([], [])).1 p 0 [] ([], []) hb0 hw
  refine ⟨(gen 0 p [] ([], [])).1, ?_⟩
  have e : codeOf p = allBytes (gen 0 p [] ([], [])).1 0 p := by
    show PP (gen 0 p [] ([], [])).1 (gen 0 p [] ([], [])).2 = _
    rw [g1]; rfl
  rw [e]
  generalize (gen 0 p [] ([], [])).1 = bl at g2
  simp only [List.nil_append, List.length_nil, Int.natCast_zero] at g2
  have hrange := beg_range bl p 0 0 (Int.le_refl _)
  rw [← g2] at hrange
  refine ⟨by have := all_len bl p 0; omega, fun i => rd_mem (P := fun x => 0 ≤ x ∧ x ≤ 255) (by decide) (bytes_all hn bl p 0 hp) i, fun i => rd_mem (P := fun x => 0 ≤ x ∧ x < 65536) (by decide) (fun x hx => ⟨(hrange x hx).1, by have := (hrange x hx).2; omega⟩) i, fun j hj => ?_, ?_⟩
  · obtain ⟨pre, post, h1, h2, h3⟩ := seg_at bl p 0 0 j hj
    rw [← g2] at h2 h3
    have ej : (0 : Int) + (j : Int) = j := by omega
    rw [ej] at h1 h3
    refine ⟨⟨pre, post, h1, ?_⟩, fun h => ?_⟩
    · have : rd bl (j : Int) = bl.getD j 0 := rfl
      rw [this]; omega
    · have := h3 h
      show bl.getD ((j : Int) + 1).toNat 0 = bl.getD j 0 + _
      rw [show ((j : Int) + 1).toNat = j + 1 by omega]
      exact this
  · rw [g2]
    cases p with
    | nil => simp at hp1
    | cons b t => rfl
end Go.Proofs.Ytaicamjpcnhjcaa.PA
namespace Go.Proofs.Ytaicamjpcnhjcaa.Pure
open Go.RowKit Go.Proofs.Ytaicamjpcnhjcaa.PA Go.Proofs.YtaicamjpcnhjcaaW.PrintWords Go.Proofs.YtaicamjpcnhjcaaW.PrintLast
set_option linter.unusedVariables false
theorem MachCodes_pure (a0 : Int) (l1 : List S79) (l2 : List Int) (w0 : (Lit.int .i64 a0).wf = true) (hg1 : ∀ y ∈ l1, good79 y) (y1 : l1.length * 48 ≤ 140737488351232) (hg2 : ∀ y ∈ l2, in64 y) (y2 : l2.length * 8 ≤ 140737488351232) : ∃ k, codemasonlaw_MachCodes.f k a0 l1 l2 = some true := by
  refine Ev.rounds (r := true) ?_
  unfold codemasonlaw_MachCodes.f
  have hpc := progCheck_ev a0 l1 (by omega) (fun b hb => by have := (hg1 b hb).2.1; omega)
  by_cases hc : blockCheck a0 l1 = 0
  · obtain ⟨v1, v6, p1, p8, ps, hp⟩ := blockCheck_zero hc hg1
    have hsn : stepsN l1 ≤ 20 := by
      have h1 := stepsOf_many hg1 p8
      have h2 := stepsN_eq l1
      omega
    have hs20 : ∀ b ∈ l1, b.f0.length ≤ 20 := fun b hb => by
      have h1 := stepsOf_at hb
      have h2 := stepsN_eq l1
      omega
    obtain ⟨bl, hco⟩ := code_ok v6 hp p1 p8 hsn
    have hcl := hco.len
    refine Ev.bind (a := (codeOf l1, 0)) (ev_const (by unfold mach_Code.f; rw [if_neg (by simp [hc]), if_pos hsn])) ?_
    rw [hc] at hpc
    refine Ev.bind hpc (ev_pos rfl (ev_pos rfl ?_))
    simp only
    refine ev_succ ?_
    simp only [codemasonlaw_MachCodes.j0]
    refine ev_neg (by simp; omega) (Ev.bind (haveCheck_ev a0 l2 (by omega)) (ev_ite (fun he => ?_) (fun he => Ev.now _)))
    have hv := haveErr_zero he
    have hl := hv.1
    refine Ev.bind (goes_ev hp (by omega) p1 hv 200 (by decide)) (ev_ite (fun hg => ?_) (fun _ => Ev.now _))
    have hwv := goN_vals hp 200 0 l2 [] hv (.inr ⟨Int.le_refl _, by omega⟩) hg
    have hwl := hwv.1
    refine Ev.bind (code_runs v1 v6 hp p1 hs20 hco hv hg) (ev_pos rfl (ev_pos (by omega) (ev_pos (by simp only [List.length_append]; omega) ?_)))
    have e : ((goN l1 200 0 l2 []).1 ++ List.replicate (6 - l2.length) 0).take a0.toNat = (goN l1 200 0 l2 []).1 := by
      rw [List.take_append_of_le_length (by omega), List.take_of_length_le (by omega)]
    simp only [e]
    exact Ev.bind (ints_self _ (by omega)) (Ev.now _)
  · refine Ev.bind (a := ([], blockCheck a0 l1)) (ev_const (by unfold mach_Code.f; rw [if_pos hc])) ?_
    exact Ev.bind hpc (ev_neg hc (ev_pos rfl (ev_some (by simp))))
end Go.Proofs.Ytaicamjpcnhjcaa.Pure
