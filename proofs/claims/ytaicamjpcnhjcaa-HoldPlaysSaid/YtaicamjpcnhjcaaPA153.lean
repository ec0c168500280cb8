/- slices.Delete at []int, of one element of a row of the call's own: what the machine's call comes to. -/
import Derived.Test.YtaicamjpcnhjcaaPA1
import Derived.Test.YtaicamjpcnhjcaaPA4
namespace Go.Proofs.Ytaicamjpcnhjcaa.PA
open Go.RowKit Go.Proofs.YtaicamjpcnhjcaaW.PrintWords Go.Proofs.YtaicamjpcnhjcaaW.PrintLast Go.Proofs.YtaicamjpcnhjcaaW.PrintMore
set_option linter.unusedVariables false
set_option linter.unusedSimpArgs false

theorem cell_blk' {w : World} {b : Nat} {cs : Array Value} {t : TypeId} (h : w.heap[b]? = some (.cells cs t (0, 0))) (j : Nat) {v : Value} (hv : cs[j]? = some v) : w.cell? ⟨b, j, none⟩ = some v := by
  simp [World.cell?, h, hv]
theorem delete_own {w : World} {base g cap : Nat} {xs : List Int} (h : w.ownsRow base 3 1 (.slice (some ⟨g, 0, none⟩) xs.length cap) xs.length (nums .i64 xs)) {i : Nat} (hi : i < xs.length) :
    Calls Try.prog 153 #[.slice (some ⟨g, 0, none⟩) xs.length cap, .int .i64 i, .int .i64 ((i : Int) + 1)] w fun e w' =>
      e = .returned (.slice (some ⟨g, 0, none⟩) (xs.eraseIdx i).length cap) ∧ w'.ownsRow base 3 1 (.slice (some ⟨g, 0, none⟩) (xs.eraseIdx i).length cap) (xs.eraseIdx i).length (nums .i64 (xs.eraseIdx i)) ∧ w.grownBy w' (some g) := by
  obtain ⟨hl, h2⟩ := h
  rcases h2 with ⟨he, _⟩ | ⟨g', cap', cur, he, hb, hh, hc1, hc2, hsz, htk⟩
  · cases he
  · injection he with he1 he2 he3
    injection he1 with he1
    injection he1 with he1
    subst he1
    subst he3
    have hcell : ∀ j, j < xs.length → w.cell? ⟨g, 0 + j, none⟩ = some (.int .i64 (xs.getD j 0)) := by
      intro j hj
      have h3 : cur.toList[j]? = some (.int .i64 (xs.getD j 0)) := by
        have h4 : (cur.toList.take (xs.length * 1))[j]? = some (.int .i64 (xs.getD j 0)) := by
          rw [htk]; simp [nums, List.getD_eq_getElem?_getD, List.getElem?_eq_getElem hj]
        rwa [List.getElem?_take_of_lt (by omega)] at h4
      have h5 : cur[j]? = some (.int .i64 (xs.getD j 0)) := by rw [← h3]; simp
      rw [Nat.zero_add]
      exact cell_blk' hh j h5
    have hc := Try.slices_Delete_int_cells g 0 xs.length cap i (i + 1) xs w (Nat.le_refl _) hc1 (by unfold maxLen at hc2; exact hc2) (by omega) (by omega) hcell (fun j _ => by simp [World.frozen?, hh])
    refine hc.mono ?_
    rintro e w' ⟨rfl, q, rfl⟩
    have hlen : (xs.eraseIdx i).length = xs.length - 1 := List.length_eraseIdx_of_lt hi
    have hvs : ((xs.take xs.length).take i ++ (xs.take xs.length).drop (i + 1) ++ List.replicate (i + 1 - i) 0).map (Value.int .i64) = nums .i64 (xs.eraseIdx i) ++ [Value.int .i64 0] := by
      rw [List.take_length, List.eraseIdx_eq_take_drop_succ, show i + 1 - i = 1 by omega]
      simp [nums]
    rw [hvs]
    have hvl : (nums .i64 (xs.eraseIdx i) ++ [Value.int .i64 0]).length = xs.length := by simp [nums, hlen]; omega
    obtain ⟨cur', k1, k2, k3⟩ := setCells_row (g := g) (e := 3) (nums .i64 (xs.eraseIdx i) ++ [Value.int .i64 0]) 0 (w.drewN q) cur hh (by rw [hvl, hsz]; omega)
    refine ⟨by rw [hlen]; congr 2; omega, ⟨by simp [nums], .inr ⟨g, cap, cur', rfl, hb, k1, by rw [hlen]; omega, hc2, by rw [k2, hsz], ?_⟩⟩, ?_⟩
    · rw [k3]
      have : (xs.eraseIdx i).length * 1 = (nums .i64 (xs.eraseIdx i)).length := by simp [nums]
      rw [this]; simp
    · obtain ⟨s1, s2, s3, s4⟩ := setCells_same g (nums .i64 (xs.eraseIdx i) ++ [Value.int .i64 0]) 0 (w.drewN q)
      exact ⟨s1, s2, s3, by rw [s4]; exact Nat.le_refl _, fun k _ hne => setCells_far _ _ k (fun e => hne (by rw [e]))⟩
end Go.Proofs.Ytaicamjpcnhjcaa.PA
