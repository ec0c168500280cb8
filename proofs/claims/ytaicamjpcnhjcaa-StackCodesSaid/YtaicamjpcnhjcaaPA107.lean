/- The closure of stack.Code, which calls itself: what the machine's call comes to. -/
import Derived.Test.YtaicamjpcnhjcaaPA1
namespace Go.Proofs.Ytaicamjpcnhjcaa.PA
open Go.RowKit Go.Proofs.YtaicamjpcnhjcaaW.PrintWords Go.Proofs.YtaicamjpcnhjcaaW.PrintLast Go.Proofs.YtaicamjpcnhjcaaW.PrintMore
set_option linter.unusedVariables false
set_option linter.unusedSimpArgs false

/-- The code of a term, as deep as f. -/
def laid (l : List S159) : Nat → Nat → List S161
  | 0, _ => []
  | f + 1, i => if (l.getD i z159).f0 > 2 then laid l f (l.getD i z159).f1.toNat ++ laid l f (l.getD i z159).f2.toNat ++ [⟨(l.getD i z159).f0, 0⟩] else [⟨(l.getD i z159).f0, (l.getD i z159).f3⟩]
/-- Terms of terms ahead of them. -/
def Ahead (l : List S159) : Prop := ∀ i, i < l.length → (l.getD i z159).f0 > 2 → 0 ≤ (l.getD i z159).f1 ∧ (l.getD i z159).f1 < i ∧ 0 ≤ (l.getD i z159).f2 ∧ (l.getD i z159).f2 < i
instance (l : List S159) : Decidable (Ahead l) := by unfold Ahead; infer_instance
theorem laid_length (l : List S159) : ∀ f i, (laid l f i).length ≤ 2 ^ f - 1
  | 0, i => by simp [laid]
  | f + 1, i => by
    have h1 := laid_length l f (l.getD i z159).f1.toNat
    have h2 := laid_length l f (l.getD i z159).f2.toNat
    have h3 : 0 < 2 ^ f := Nat.pow_pos (by omega)
    rw [Nat.pow_succ]
    unfold laid
    split
    · simp only [List.length_append, List.length_cons, List.length_nil]; omega
    · simp only [List.length_cons, List.length_nil]; omega

/-- What the closure has captured, and what has been put so far. -/
structure PutSt (w0 w : World) (A : Option Addr) (n c : Nat) (pl pp pc : Nat) (v : Value) (acc : List S161) : Prop where
  below : Below w0.heap.size w0 w
  gl : w0.heap.size ≤ pl
  gp : w0.heap.size ≤ pp
  gc : w0.heap.size ≤ pc
  lp : pl ≠ pp
  lc : pl ≠ pc
  pc' : pp ≠ pc
  cl : w.heap[pl]? = some (.cells #[.slice A n c] 68 (0, 0))
  cp : w.heap[pp]? = some (.cells #[.func (.func 107) #[] #[.pointer (some ⟨pl, 0, none⟩), .pointer (some ⟨pp, 0, none⟩), .pointer (some ⟨pc, 0, none⟩)]] 157 (0, 0))
  cc : w.heap[pc]? = some (.cells #[v] 69 (0, 0))
  row : Kd.R k161 161 w w0.heap.size (fun k => k ≠ pl ∧ k ≠ pp ∧ k ≠ pc) v acc

theorem T159_at {w : World} {A : Option Addr} {n : Nat} {xs : List S159} (h : Kd.C k159 w A n xs) (k : Nat) (hk : k < n) : ∃ ad, A = some ad ∧ w.cell? (ad.add (k * 4)) = some (.int .i64 (xs.getD k z159).f0) ∧ w.cell? ⟨(ad.add (k * 4)).block, (ad.add (k * 4)).off + 1, none⟩ = some (.int .i64 (xs.getD k z159).f1) ∧ w.cell? ⟨(ad.add (k * 4)).block, (ad.add (k * 4)).off + 2, none⟩ = some (.int .i64 (xs.getD k z159).f2) ∧ w.cell? ⟨(ad.add (k * 4)).block, (ad.add (k * 4)).off + 3, none⟩ = some (.int .i64 (xs.getD k z159).f3) := at_T159 h k (by omega) (by omega)
theorem cell_blk {w : World} {b : Nat} {cs : Array Value} {t : TypeId} (h : w.heap[b]? = some (.cells cs t (0, 0))) (j : Nat) {v : Value} (hv : cs[j]? = some v) : w.cell? ⟨b, j, none⟩ = some v := by
  simp [World.cell?, h, hv]

theorem blk_lt {w : World} {b : Nat} {o : Obj} (h : w.heap[b]? = some o) : b < w.heap.size := (Array.getElem?_eq_some_iff.1 h).1
theorem cell_alloc {w : World} {b : Nat} {cs : Array Value} {t : TypeId} (h : w.heap[b]? = some (.cells cs t (0, 0))) (j : Nat) {v : Value} (hv : cs[j]? = some v) (o : Obj) : (w.alloc o).cell? ⟨b, j, none⟩ = some v :=
  cell_blk (w := w.alloc o) ((Below.heap_alloc w o b (blk_lt h)).trans h) j hv
theorem frozen_blk {w : World} {b : Nat} {cs : Array Value} {t : TypeId} (h : w.heap[b]? = some (.cells cs t (0, 0))) (j : Nat) : w.frozen? ⟨b, j, none⟩ = false := by
  simp [World.frozen?, h]
/-- What has turned: the cell pc, the row v, and what is new. -/
structure Moved (w w' : World) (pc : Nat) (v v' : Value) : Prop where
  same : ∀ k, k < w.heap.size → k ≠ pc → some k ≠ v.ownBlock → w'.heap[k]? = w.heap[k]?
  row : v'.ownBlock = v.ownBlock ∨ ∃ b, v'.ownBlock = some b ∧ w.heap.size ≤ b
  size : w.heap.size ≤ w'.heap.size
theorem Moved.trans {w w1 w2 : World} {pc : Nat} {v v1 v2 : Value} (h : Moved w w1 pc v v1) (k : Moved w1 w2 pc v1 v2) : Moved w w2 pc v v2 := by
  refine ⟨fun j hj hp hv => (k.same j (Nat.lt_of_lt_of_le hj h.size) hp ?_).trans (h.same j hj hp hv), ?_, Nat.le_trans h.size k.size⟩
  · rcases h.row with e | ⟨b, e, hb⟩
    · rw [e]; exact hv
    · rw [e]; intro e'; injection e' with e'; omega
  · rcases k.row with e | ⟨b, e, hb⟩
    · rw [e]; exact h.row
    · exact .inr ⟨b, e, Nat.le_trans h.size hb⟩
theorem Moved.below {w w1 : World} (pc : Nat) (v : Value) (h : Below w.heap.size w w1) : Moved w w1 pc v v := ⟨fun k hk _ _ => h.block k hk, .inl rfl, h.size⟩
theorem Moved.far {w w1 : World} {pc : Nat} {v v1 : Value} (h : Moved w w1 pc v v1) {g : Nat} (hg : w.heap.size ≤ g) (j : Nat) (u : Value) : Moved w (w1.setCell ⟨g, j, none⟩ u) pc v v1 :=
  ⟨fun k hk hp hv => (Below.heap_setCell _ _ _ _ (by show k ≠ g; omega)).trans (h.same k hk hp hv), h.row, by simpa using h.size⟩
theorem PutSt.alloc {w0 w : World} {A : Option Addr} {n c pl pp pc : Nat} {v : Value} {acc : List S161} (S : PutSt w0 w A n c pl pp pc v acc) (o : Obj) : PutSt w0 (w.alloc o) A n c pl pp pc v acc :=
  ⟨S.below.alloc S.below.size o, S.gl, S.gp, S.gc, S.lp, S.lc, S.pc', (Below.heap_alloc w o _ (blk_lt S.cl)).trans S.cl, (Below.heap_alloc w o _ (blk_lt S.cp)).trans S.cp, (Below.heap_alloc w o _ (blk_lt S.cc)).trans S.cc, Kd.R_alloc S.row o⟩
theorem PutSt.far {w0 w : World} {A : Option Addr} {n c pl pp pc : Nat} {v : Value} {acc : List S161} (S : PutSt w0 w A n c pl pp pc v acc) {g : Nat} (hg : w0.heap.size ≤ g) {cells : Array Value} (hb : w.heap[g]? = some (.cells cells 159 (0, 0))) (j : Nat) (u : Value) : PutSt w0 (w.setCell ⟨g, j, none⟩ u) A n c pl pp pc v acc := by
  have ne : ∀ b cs t, w.heap[b]? = some (.cells cs t (0, 0)) → t ≠ 159 → b ≠ g := fun b cs t h ht e => by
    rw [e, hb] at h; injection h with h; injection h with _ h _; exact ht h.symm
  exact ⟨S.below.setCell hg _, S.gl, S.gp, S.gc, S.lp, S.lc, S.pc', (Below.heap_setCell _ _ _ _ (ne _ _ _ S.cl (by decide))).trans S.cl, (Below.heap_setCell _ _ _ _ (ne _ _ _ S.cp (by decide))).trans S.cp, (Below.heap_setCell _ _ _ _ (ne _ _ _ S.cc (by decide))).trans S.cc, Kd.R_set S.row hb (by decide) j u⟩
/-- One more is put. -/
theorem PutSt.put {w0 w W w1 : World} {A : Option Addr} {n c pl pp pc : Nat} {v v1 : Value} {acc acc1 : List S161} (S : PutSt w0 w A n c pl pp pc v acc) (hW : Below w.heap.size w W)
    (hR : Kd.R k161 161 w1 w0.heap.size (fun k => k ≠ pl ∧ k ≠ pp ∧ k ≠ pc) v1 acc1) (hB : Below w0.heap.size w0 w1) (hg : W.grownBy w1 v.ownBlock) (hat : v1.ownBlock = v.ownBlock ∨ ∃ b, v1.ownBlock = some b ∧ W.heap.size ≤ b) :
    w1.heap[pc]? = some (.cells #[v] 69 (0, 0)) ∧ PutSt w0 (w1.setCell ⟨pc, 0, none⟩ v1) A n c pl pp pc v1 acc1 ∧ Moved w (w1.setCell ⟨pc, 0, none⟩ v1) pc v v1 := by
  have hne : ∀ k, v.ownBlock = some k → k ≠ pl ∧ k ≠ pp ∧ k ≠ pc := S.row.1
  have same : ∀ b o, w.heap[b]? = some o → some b ≠ v.ownBlock → w1.heap[b]? = some o := fun b o h hb => by
    have hb' := blk_lt h
    exact (hg.block b (Nat.lt_of_lt_of_le hb' hW.size) hb).trans ((hW.block b hb').trans h)
  have h1 := same _ _ S.cl (fun e => (hne pl e.symm).1 rfl)
  have h2 := same _ _ S.cp (fun e => (hne pp e.symm).2.1 rfl)
  have h3 := same _ _ S.cc (fun e => (hne pc e.symm).2.2 rfl)
  refine ⟨h3, ⟨hB.setCell S.gc _, S.gl, S.gp, S.gc, S.lp, S.lc, S.pc', ?_, ?_, ?_, Kd.R_far hR (fun k hk => hk.2.2) _⟩, ?_, ?_, ?_⟩
  · rw [Below.heap_setCell _ _ _ _ (by simpa using S.lc)]; exact h1
  · rw [Below.heap_setCell _ _ _ _ (by simpa using S.pc')]; exact h2
  · exact blk_put (cs := #[v]) h3 0 _ rfl
  · intro k hk hp hv
    exact (Below.heap_setCell _ _ _ _ hp).trans ((hg.block k (Nat.lt_of_lt_of_le hk hW.size) hv).trans (hW.block k hk))
  · rcases hat with e | ⟨b, e, hb⟩
    · exact .inl e
    · exact .inr ⟨b, e, Nat.le_trans hW.size hb⟩
  · simpa using Nat.le_trans hW.size hg.size

set_option maxRecDepth 100000 in
set_option maxHeartbeats 1000000 in
theorem stack_put.calls (l : List S159) (hA : Ahead l) (w0 : World) (A : Option Addr) (c : Nat) (hl : Kd.C k159 w0 A l.length l) (pl pp pc : Nat) :
    ∀ (f i : Nat), i < f → i < l.length → ∀ (acc : List S161) (v : Value) (w : World), acc.length + 2 ^ f < 1000000 → PutSt w0 w A l.length c pl pp pc v acc →
    Calls Try.prog 107 #[.int .i64 i, .pointer (some ⟨pl, 0, none⟩), .pointer (some ⟨pp, 0, none⟩), .pointer (some ⟨pc, 0, none⟩)] w fun e w' => e = .returned (.tuple #[]) ∧ ∃ v', PutSt w0 w' A l.length c pl pp pc v' (acc ++ laid l f i) ∧ Moved w w' pc v v'
  | 0, i, hi, _, _, _, _, _, _ => absurd hi (by omega)
  | f + 1, i, hi, hil, acc, v, w, hacc, S => by
    have HS := Aside0.mk S
    have hLen := hl.2.1
    obtain ⟨ad, e0, h0, h1, h2, h3⟩ := T159_at (Kd.C_below hl S.below) i hil
    cases e0
    have HL : Aside0 (laid l (f + 1) i = _) := ⟨laid.eq_2 l i f⟩
    have HA := hA i hil
    generalize l.getD i z159 = t at h0 h1 h2 h3 HL HA
    have hcl := cell_blk S.cl 0 rfl
    have hcp := cell_alloc S.cp 0 rfl
    have hcc := cell_alloc S.cc 0 rfl
    by_cases ht : t.f0 > 2
    · obtain ⟨q1, q2, q3, q4⟩ := HA ht
      obtain ⟨a, ha⟩ := Int.eq_ofNat_of_zero_le q1
      obtain ⟨b, hb⟩ := Int.eq_ofNat_of_zero_le q3
      have hl1 : laid l (f + 1) i = laid l f a ++ laid l f b ++ [⟨t.f0, 0⟩] := by rw [HL.out, if_pos ht, ha, hb]; rfl
      have HL1 := Aside0.mk hl1
      have hla := laid_length l f a
      have hlb := laid_length l f b
      have hpw : 0 < 2 ^ f := Nat.pow_pos (by omega)
      rw [Nat.pow_succ] at hacc
      have Hn : Aside0 (acc.length + 2 ^ f < 1000000 ∧ (acc ++ laid l f a).length + 2 ^ f < 1000000 ∧ ((acc ++ laid l f a ++ laid l f b).length + 1) * 16 ≤ 140737488355328) := ⟨by simp only [List.length_append]; omega⟩
      have Hab : Aside0 (a < f ∧ b < f ∧ a < l.length ∧ b < l.length) := ⟨by omega⟩
      rw [ha] at h1
      rw [hb] at h2
      have htb : decide (t.f0 > 2) = true := decide_eq_true ht
      generalize t.f3 = t3 at h3
      generalize t.f0 = t0 at h0 HL1 htb
      have hS1 := S.alloc (.cells #[.int .i64 t0, .int .i64 a, .int .i64 b, .int .i64 t3] 159)
      have HS1 := Aside0.mk hS1
      have hcp1 := cell_alloc S.cp 0 rfl
      clear hla hlb hpw hacc HL HA hl1 ha hb q1 q2 q3 q4 hcc hcp hS1 ht
      go_enter Try.func107, Try.ntmps107
      go_wp2_with fail
      refine (stack_put.calls l hA w0 (some ad) c hl pl pp pc f a Hab.out.1 Hab.out.2.2.1 acc v _ Hn.out.1 HS1.out).mono ?_
      rintro e w2 ⟨rfl, v2, S2, M2⟩
      have hpc := blk_lt S.cc
      have hvl := Kd.R_lt S.row
      have hw2 : w.heap.size < w2.heap.size := by have := M2.size; simp at this; omega
      have hbx : w2.heap[w.heap.size]? = some (.cells #[.int .i64 t0, .int .i64 a, .int .i64 b, .int .i64 t3] 159 (0, 0)) :=
        (M2.same w.heap.size (by simp) (by omega) (fun e => by have := hvl _ e.symm; omega)).trans (heap_alloc_new w _)
      have hvn : some w.heap.size ≠ v2.ownBlock := by
        rcases M2.row with e | ⟨b', e, hb'⟩
        · rw [e]; intro e'; have := hvl _ e'.symm; omega
        · rw [e]; intro e'; injection e' with e'; simp at hb'; omega
      have HM2 := Aside0.mk ((Moved.below pc v (below_alloc (Below.refl _ _) _)).trans M2)
      have HS2 := Aside0.mk S2
      have Hbx := Aside0.mk hbx
      have Hvn := Aside0.mk hvn
      have g2 := cell_blk hbx 2 rfl
      have hcp2 := cell_blk S2.cp 0 rfl
      clear S2 M2 hbx hvn h0 h1 h2 h3 hcl hcp1 S hvl
      go_wp2_with fail
      refine (stack_put.calls l hA w0 (some ad) c hl pl pp pc f b Hab.out.2.1 Hab.out.2.2.2 _ v2 _ Hn.out.2.1 HS2.out).mono ?_
      rintro e w3 ⟨rfl, v3, S3, M3⟩
      have Hn3 := Aside0.mk Hn.out.2.2
      have hys : ∃ ys, acc ++ laid l f a ++ laid l f b = ys := ⟨_, rfl⟩
      obtain ⟨ys, hys⟩ := hys
      rw [hys] at S3 Hn3
      have Hys := Aside0.mk hys
      clear hys Hn
      have hbx3 := (M3.same w.heap.size hw2 (by omega) Hvn.out).trans Hbx.out
      have S4 := S3.far (HS.out.below.size) hbx3 3 (.int .i64 0)
      have M4 := (HM2.out.trans M3).far (Nat.le_refl _) 3 (.int .i64 0)
      have hfz3 := frozen_blk hbx3 3
      have hbx4 := blk_put (cs' := #[.int .i64 t0, .int .i64 a, .int .i64 b, .int .i64 0]) hbx3 3 (.int .i64 0) rfl
      have k0 := cell_blk hbx4 0 rfl
      have k3 := cell_blk hbx4 3 rfl
      have kc := cell_blk S4.cc 0 rfl
      have hx3 := cell_blk hbx3 3 rfl
      have HS4 := Aside0.mk S4
      have HM4 := Aside0.mk M4
      have hfresh : ∀ k, (w3.setCell ⟨w.heap.size, 3, none⟩ (.int .i64 0)).heap.size ≤ k → k ≠ pl ∧ k ≠ pp ∧ k ≠ pc := fun k hk => by
        have := blk_lt S4.cl; have := blk_lt S4.cp; have := blk_lt S4.cc
        omega
      have Hfresh := Aside0.mk hfresh
      clear S3 S4 M3 M4 hbx3 hbx4 g2 hcp2 hfresh HM2 HS2 Hbx Hvn HS HS1
      go_wp2_with (at_builtin; (refine Kd.R_append (w0 := w0) k161 w0.heap.size rfl _ _ 69 161 (.agg #[.int .i64 0, .int .i64 0]) 16 rfl Try.underlying69 info161 rfl (by decide) (by decide) v3 _ ⟨t0, 0⟩ [.int .i64 t0, .int .i64 0] (fun k => k ≠ pl ∧ k ≠ pp ∧ k ≠ pc) (fun _ => False) rfl (by simp [go_sem]) (k161_mkM _ _ _ _) (fun _ h => h.elim) Hfresh.out HS4.out.row HS4.out.below HS4.out.below.size Hn3.out ?_); intro v1 w1 hR hB hg hat; obtain ⟨Av, cv, rfl⟩ := Kd.R_slice hR; obtain ⟨h3', hS, hM⟩ := HS4.out.put (Below.refl _ _) hR hB hg hat; have HS' := Aside0.mk hS; have HM := Aside0.mk (HM4.out.trans hM); have hfz := frozen_blk h3' 0; have hc3 := cell_blk h3' 0 rfl; clear hR hB hg hat hS h3' hM)
      go_end0
      have h := And.intro HS'.out HM.out
      rw [HL1.out, ← List.append_assoc, ← List.append_assoc, Hys.out]
      simp only [List.length_append, List.length_cons, List.length_nil, Nat.zero_add] at h
      exact ⟨rfl, _, h⟩
    · have hl1 : laid l (f + 1) i = [⟨t.f0, t.f3⟩] := by rw [HL.out, if_neg ht]
      have HL1 := Aside0.mk hl1
      have hpw : 0 < 2 ^ f := Nat.pow_pos (by omega)
      have Hr1 : Aside0 ((acc.length + 1) * 16 ≤ 140737488355328) := ⟨by rw [Nat.pow_succ] at hacc; omega⟩
      have hW : Below w.heap.size w (w.alloc (.cells #[.int .i64 t.f0, .int .i64 t.f1, .int .i64 t.f2, .int .i64 t.f3] 159)) := below_alloc (Below.refl _ _) _
      have hall : Kd.R k161 161 (w.alloc (.cells #[.int .i64 t.f0, .int .i64 t.f1, .int .i64 t.f2, .int .i64 t.f3] 159)) w0.heap.size (fun k => k ≠ pl ∧ k ≠ pp ∧ k ≠ pc) v acc := Kd.R_alloc S.row _
      have hbel := S.below.alloc S.below.size (.cells #[.int .i64 t.f0, .int .i64 t.f1, .int .i64 t.f2, .int .i64 t.f3] 159)
      have hfresh : ∀ k, (w.alloc (.cells #[.int .i64 t.f0, .int .i64 t.f1, .int .i64 t.f2, .int .i64 t.f3] 159)).heap.size ≤ k → k ≠ pl ∧ k ≠ pp ∧ k ≠ pc := fun k hk => by
        have := blk_lt S.cl; have := blk_lt S.cp; have := blk_lt S.cc
        simp at hk
        omega
      have Hall := Aside0.mk hall
      have HW := Aside0.mk hW
      have Hbel := Aside0.mk hbel
      have Hfresh := Aside0.mk hfresh
      clear HL HA hl1 S hacc hpw hW hall hbel hfresh
      go_enter Try.func107, Try.ntmps107
      go_wp2_with (at_builtin; (refine Kd.R_append (w0 := w0) k161 w0.heap.size rfl _ _ 69 161 (.agg #[.int .i64 0, .int .i64 0]) 16 rfl Try.underlying69 info161 rfl (by decide) (by decide) v acc ⟨t.f0, t.f3⟩ [.int .i64 t.f0, .int .i64 t.f3] (fun k => k ≠ pl ∧ k ≠ pp ∧ k ≠ pc) (fun _ => False) rfl (by simp [go_sem]) (k161_mkM _ _ _ _) (fun _ h => h.elim) Hfresh.out Hall.out Hbel.out Hbel.out.size Hr1.out ?_); intro v1 w1 hR hB hg hat; obtain ⟨Av, cv, rfl⟩ := Kd.R_slice hR; obtain ⟨h3', hS, hM⟩ := HS.out.put HW.out hR hB hg hat; have HS' := Aside0.mk hS; have HM := Aside0.mk hM; have hfz := frozen_blk h3' 0; have hc3 := cell_blk h3' 0 rfl; clear hR hB hg hat hS h3' hM)
      go_end0
      have h := And.intro HS'.out HM.out
      simp only [List.length_append, List.length_cons, List.length_nil, Nat.zero_add] at h
      exact ⟨rfl, _, by rw [HL1.out]; exact h⟩
end Go.Proofs.Ytaicamjpcnhjcaa.PA
