/- stack.Code of the translation: what the machine's call comes to. -/
import Derived.Test.YtaicamjpcnhjcaaPA106
import Derived.Test.YtaicamjpcnhjcaaPA107
import Derived.Laws.EntriesVeiled
namespace Go.Proofs.Ytaicamjpcnhjcaa.PA
open Go.RowKit Go.Proofs.YtaicamjpcnhjcaaW.PrintWords Go.Proofs.YtaicamjpcnhjcaaW.PrintLast Go.Proofs.YtaicamjpcnhjcaaW.PrintMore
set_option linter.unusedVariables false
set_option linter.unusedSimpArgs false

def stack_Code.f (k : Nat) (a0 : Int) (l1 : List S159) : Option (List S161 × Int) :=
  (need_Need.f k a0 l1).bind fun t => if t.2 = 0 then (if 1 ≤ l1.length ∧ l1.length ≤ 16 ∧ Ahead l1 then some (laid l1 l1.length (l1.length - 1), 0) else none) else some ([], t.2)
theorem stack_Code.mono : ∀ a0 a1 k, LeO (stack_Code.f k a0 a1) (stack_Code.f (k + 1) a0 a1) := fun a0 a1 k => by
  unfold stack_Code.f
  exact LeO.bind (need_Need.mono a0 a1 k) (fun _ => LeO.refl _)

set_option maxRecDepth 100000 in
set_option maxHeartbeats 1000000 in
theorem stack_Code.calls (k : Nat) (a0 : Int) (A1 : Option Addr) (c1 : Nat) (l1 : List S159) (r1 : List S161) (r2 : Int) (w : World) (hr1 : Kd.C k159 w A1 l1.length l1) (hc1 : l1.length ≤ c1) (h : stack_Code.f k a0 l1 = some (r1, r2)) :
    Calls Try.prog 45 #[.int .i64 a0, .slice A1 l1.length c1] w fun e w' => ∃ v0_ : Value, e = .returned (.tuple #[v0_, .int .i64 r2]) ∧ Kd.R k161 161 w' w.heap.size (fun _ => True) v0_ r1 ∧ Below w.heap.size w w' := by
  have hmf : ∀ (fn : Fn) (first cap : Array Value) (w : World), (Instr.makeFunc fn first cap).run Try.prog w = .ok (.func fn first cap) w := fun _ _ _ _ => rfl
  obtain ⟨⟨t1, t2⟩, hn, hh⟩ := Option.bind_eq_some_iff.1 h
  have HN := Aside0.mk hn
  have HR := Aside0.mk hr1
  have HC := Aside0.mk hc1
  clear h hn hr1 hc1
  by_cases ht : t2 = 0
  · subst ht
    simp only [if_true] at hh
    split at hh
    · rename_i hg
      obtain ⟨g1, g2, hA⟩ := hg
      simp only [Option.some.injEq, Prod.mk.injEq] at hh
      obtain ⟨rfl, rfl⟩ := hh
      go_enter Try.func45, Try.ntmps45
      go_wp2_with (go_at_call 106; refine (need_Need.calls k _ _ _ _ _ _ _ (Kd.C_below HR.out (below_alloc (Below.refl _ _) _)) HC.out HN.out).mono ?_; rintro e w2 ⟨rfl, hb2⟩; replace hb2 : Below (w.heap.size + 1) (w.alloc (.cells #[.slice A1 l1.length c1] 68)) w2 := hb2.mono (by simp); have Hb2 := Aside0.mk hb2; have hcl : w2.heap[w.heap.size]? = some (.cells #[.slice A1 l1.length c1] 68 (0, 0)) := (hb2.block _ (by omega)).trans (heap_alloc_new w _); have hbx : ∀ o o', ((w2.alloc o).alloc o').cell? ⟨w.heap.size, 0, none⟩ = some (.slice A1 l1.length c1) := fun o o' => cell_alloc ((Below.heap_alloc w2 o _ (blk_lt hcl)).trans hcl) 0 rfl o'; have Hcl := Aside0.mk hcl; clear hb2 hcl)
      rw [show ((l1.length : Int) - 1) = ((l1.length - 1 : Nat) : Int) from by omega]
      have hw2 := box_size Hb2.out
      have hS : PutSt w ((w2.alloc (.cells #[.slice none 0 0] 69)).alloc (.cells #[.func (.func 107) #[] #[.pointer (some ⟨w.heap.size, 0, none⟩), .pointer (some ⟨w2.heap.size + 1, 0, none⟩), .pointer (some ⟨w2.heap.size, 0, none⟩)]] 157)) A1 l1.length c1 w.heap.size (w2.heap.size + 1) w2.heap.size (.slice none 0 0) [] := by
        refine ⟨((below_box Hb2.out).alloc (by omega) _).alloc (by simp; omega) _, Nat.le_refl _, by omega, by omega, by omega, by omega, by omega, ?_, ?_, ?_, Kd.R_nil _ _ _ _ _⟩
        · exact (Below.heap_alloc _ _ _ (by simp; omega)).trans ((Below.heap_alloc _ _ _ (by omega)).trans Hcl.out)
        · have := heap_alloc_new (w2.alloc (.cells #[.slice none 0 0] 69)) (.cells #[.func (.func 107) #[] #[.pointer (some ⟨w.heap.size, 0, none⟩), .pointer (some ⟨w2.heap.size + 1, 0, none⟩), .pointer (some ⟨w2.heap.size, 0, none⟩)]] 157)
          simpa using this
        · exact (Below.heap_alloc _ _ _ (by simp)).trans (heap_alloc_new w2 _)
      have hp : 2 ^ l1.length ≤ 2 ^ 16 := Nat.pow_le_pow_right (by omega) g2
      refine (stack_put.calls l1 hA w A1 c1 HR.out _ _ _ l1.length (l1.length - 1) (by omega) (by omega) [] _ _ (by simp only [List.length_nil]; omega) hS).mono ?_
      rintro e w3 ⟨rfl, v3, S3, M3⟩
      have hc3 := cell_blk S3.cc 0 rfl
      have hR3 := Aside0.mk S3.row
      have hB3 := Aside0.mk S3.below
      clear S3 M3 hS
      go_wp2
      go_ret2
      exact ⟨_, rfl, Kd.R_mono hR3.out (fun _ _ => trivial), hB3.out⟩
    · exact absurd hh (by simp)
  · simp only [if_neg ht, Option.some.injEq, Prod.mk.injEq] at hh
    obtain ⟨rfl, rfl⟩ := hh
    have htb : (t2 != 0) = true := by simp [ht]
    clear ht
    go_enter Try.func45, Try.ntmps45
    go_wp2_with (go_at_call 106; refine (need_Need.calls k _ _ _ _ _ _ _ (Kd.C_below HR.out (below_alloc (Below.refl _ _) _)) HC.out HN.out).mono ?_; rintro e w2 ⟨rfl, hb2⟩)
    go_ret2
    exact ⟨_, rfl, Kd.R_nil _ _ _ _ _, ((Below.refl _ _).alloc (Nat.le_refl _) _).trans (hb2.mono (by simp))⟩
end Go.Proofs.Ytaicamjpcnhjcaa.PA
