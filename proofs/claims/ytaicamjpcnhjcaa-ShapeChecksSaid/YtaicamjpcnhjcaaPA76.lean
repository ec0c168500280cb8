/- block.Check of the translation: what the machine's call comes to. -/
import Derived.Test.YtaicamjpcnhjcaaPA150
namespace Go.Proofs.Ytaicamjpcnhjcaa.PA
open Go.RowKit Go.Proofs.YtaicamjpcnhjcaaW.PrintWords Go.Proofs.YtaicamjpcnhjcaaW.PrintLast Go.Proofs.YtaicamjpcnhjcaaW.PrintMore
set_option linter.unusedVariables false
set_option linter.unusedSimpArgs false

/-- How many steps, as the machine adds them up. -/
def manyOf : List S79 → Int → Int
  | [], m => m
  | b :: t, m => manyOf t (wrap64 (m + b.f0.length))
def stepsErr (v : Int) : List S111 → Int
  | [] => 0
  | s :: t => if stepE v s.f0 s.f1 s.f2 s.f3 s.f4 ≠ 0 then stepE v s.f0 s.f1 s.f2 s.f3 s.f4 else stepsErr v t
def blockErr (v n : Int) (b : S79) : Int :=
  if stepsErr v b.f0 ≠ 0 then stepsErr v b.f0
  else if b.f1 < -1 ∨ b.f1 ≥ v then 2
  else if insB n b.f2 = false ∧ (b.f2 ≠ -1 ∨ b.f1 ≥ 0) ∨ b.f1 ≥ 0 ∧ insB n b.f3 = false then 3 else 0
def blocksErr (v n : Int) : List S79 → Int
  | [] => 0
  | b :: t => if blockErr v n b ≠ 0 then blockErr v n b else blocksErr v n t
def blockCheck (v : Int) (l : List S79) : Int :=
  if v < 1 ∨ v > 6 ∨ l.length < 1 ∨ l.length > 8 ∨ manyOf l 0 > 20 then 1 else blocksErr v l.length l
def block_Check.f (a0 : Int) (l1 : List S79) : Option Int := some (blockCheck a0 l1)

theorem stepsErr_at (v : Int) {l : List S111} {j : Nat} (h : j < l.length) : stepsErr v (l.drop j) = if stepE v (l.getD j z111).f0 (l.getD j z111).f1 (l.getD j z111).f2 (l.getD j z111).f3 (l.getD j z111).f4 ≠ 0 then stepE v (l.getD j z111).f0 (l.getD j z111).f1 (l.getD j z111).f2 (l.getD j z111).f3 (l.getD j z111).f4 else stepsErr v (l.drop (j + 1)) := by
  rw [drop_at z111 h]; rfl
theorem blocksErr_at (v n : Int) {l : List S79} {j : Nat} (h : j < l.length) : blocksErr v n (l.drop j) = if blockErr v n (l.getD j z79) ≠ 0 then blockErr v n (l.getD j z79) else blocksErr v n (l.drop (j + 1)) := by
  rw [drop_at z79 h]; rfl

set_option maxHeartbeats 400000 in
theorem block_Check_1.calls (i : Int) (A : Option Addr) (n c : Nat) (p : Addr) (w : World) (hp : w.cell? p = some (.slice A n c)) :
    Calls Try.prog 151 #[.int .i64 i, .pointer (some p)] w fun e w' => e = .returned (.bool (insB n i)) ∧ w = w' := by
  by_cases h : 0 ≤ i
  all_goals
    go_enter Try.func151, Try.ntmps151
    go_wp2
    go_ret
    exact ⟨by simp [insB, h] <;> omega, rfl⟩

set_option maxRecDepth 100000 in
set_option maxHeartbeats 4000000 in
theorem block_Check.calls (a0 : Int) (A1 : Option Addr) (c1 : Nat) (l1 : List S79) (r : Int) (w : World) (hr1 : Kd.C k79 w A1 l1.length l1) (hc1 : l1.length ≤ c1) (h : block_Check.f a0 l1 = some r) :
    Calls Try.prog 76 #[.int .i64 a0, .slice A1 l1.length c1] w fun e w' => e = .returned (.int .i64 r) ∧ Below w.heap.size w w' := by
  have HR := Aside0.mk hr1
  have H := Aside0.mk h
  have hl := hr1.2.1
  clear h hr1
  have hmf : ∀ (fn : Fn) (first cap : Array Value) (w : World), (Instr.makeFunc fn first cap).run Try.prog w = .ok (.func fn first cap) w := fun _ _ _ _ => rfl
  go_enter Try.func76, Try.ntmps76
  go_wp2_with fail
  go_loopw [5, 16] (fun m i wr => ∃ k : Nat, k ≤ l1.length ∧ i = .int .i64 k ∧ (∃ z : Int, m = .int .i64 z ∧ manyOf (l1.drop k) z = manyOf l1 0) ∧ Below (w.heap.size + 1) (w.alloc (.cells #[.slice A1 l1.length c1] 24)) wr) (fun _ i _ => l1.length - (intOf i).toNat)
  case atStart => exact ⟨0, Nat.zero_le _, rfl, ⟨0, rfl, rfl⟩, Below.refl _ _⟩
  case round =>
    obtain ⟨k, hk, rfl, ⟨z, rfl, hz⟩, hb⟩ := hrel
    have hbw : Below w.heap.size w wr := ((Below.refl _ _).alloc (Nat.le_refl _) _).trans (hb.mono (Nat.le_succ _))
    have hC := Aside0.mk (Kd.C_below HR.out hbw)
    have Hz := Aside0.mk hz
    have Hb := Aside0.mk hb
    have Hbw := Aside0.mk hbw
    clear hz hb hbw
    by_cases hlt : k < l1.length
    · obtain ⟨ad, A0, c0, e0, h0, h1, h2, h3, hl0, hC0⟩ := T79_at hC.out k hlt
      cases e0
      have HC0 := Aside0.mk hC0
      have Hl0 := Aside0.mk hl0
      clear hC0 hl0
      go_wp2
      go_roundw
      case rel => exact ⟨k + 1, by omega, by go_num, ⟨_, rfl, by have h := Hz.out; rw [drop_at z79 hlt] at h; simpa [manyOf, hlt] using h⟩, by have := Hb.out; exact this.alloc (by simpa using this.size) _⟩
      case measure => simp [intOf]; omega
    · have hz : z = manyOf l1 0 := by have h := Hz.out; rw [List.drop_of_length_le (by omega)] at h; exact h
      have hbx := box_cell Hb.out
      clear Hz
      by_cases hcond : a0 < 1 ∨ a0 > 6 ∨ l1.length < 1 ∨ l1.length > 8 ∨ z > 20
      · have hr : r = 1 := by have h := H.out; subst hz; simp only [block_Check.f, blockCheck, if_pos hcond, Option.some.injEq] at h; exact h.symm
        clear H hC hz
        go_wp2
        all_goals
          go_ret
          refine ⟨ret_int ?_, Hbw.out⟩
          omega
      · have hr : blocksErr a0 l1.length (l1.drop 0) = r := by have h := H.out; subst hz; simp only [block_Check.f, blockCheck, if_neg hcond, Option.some.injEq] at h; exact h
        have HE := Aside0.mk hr
        have hc : 1 ≤ a0 ∧ a0 ≤ 6 ∧ (1 : Int) ≤ l1.length ∧ (l1.length : Int) ≤ 8 ∧ z ≤ 20 := by omega
        obtain ⟨q1, q2, q3, q4, q5⟩ := hc
        clear H hC hz hr hcond
        go_wp2
        obtain ⟨wo, ho⟩ : ∃ wo : World, wo = wr := ⟨_, rfl⟩
        subst ho
        go_loopw [48] (fun i wr => ∃ k : Nat, k ≤ l1.length ∧ i = .int .i64 k ∧ Aside0 (blocksErr a0 l1.length (l1.drop k) = r) ∧ Aside0 (Below (w.heap.size + 1) (w.alloc (.cells #[.slice A1 l1.length c1] 24)) wr)) (fun i _ => l1.length - (intOf i).toNat)
        case atStart => exact ⟨0, by omega, rfl, HE, Hb⟩
        case round =>
          clear Hb Hbw HE hbx
          obtain ⟨k, hk, rfl, HE, Hb⟩ := hrel
          have Hbw : Aside0 (Below w.heap.size w wr) := ⟨((Below.refl _ _).alloc (Nat.le_refl _) _).trans (Hb.out.mono (Nat.le_succ _))⟩
          have hbx := box_cell Hb.out
          by_cases hlt : k < l1.length
          · obtain ⟨ad, A0, c0, e0, h0, h1, h2, h3, hl0, hC0⟩ := T79_at (Kd.C_below HR.out Hbw.out) k hlt
            cases e0
            have hE := HE.out
            rw [blocksErr_at _ _ hlt] at hE
            generalize l1.getD k z79 = b at h0 h1 h2 h3 hl0 hC0 hE
            have hn0 := hC0.2.1
            have HC0 := Aside0.mk hC0
            replace HE := Aside0.mk hE
            clear hC0 hl0 hE
            go_wp2
            obtain ⟨wo, ho⟩ : ∃ wo : World, wo = wr := ⟨_, rfl⟩
            subst ho
            go_loopw [55] (fun i w' => ∃ j : Nat, j ≤ b.f0.length ∧ i = .int .i64 j ∧ Aside0 (stepsErr a0 (b.f0.drop j) = stepsErr a0 b.f0) ∧ Aside0 (Below (wo.heap.size + 1) (wo.alloc (.cells #[.slice A0 b.f0.length c0, .int .i64 b.f1, .int .i64 b.f2, .int .i64 b.f3] 79)) w')) (fun i _ => b.f0.length - (intOf i).toNat)
            case atStart => exact ⟨0, by omega, rfl, ⟨rfl⟩, ⟨Below.refl _ _⟩⟩
            case round =>
              obtain ⟨j, hj, rfl, HS, Hb2⟩ := hrel
              have Hbo := Aside0.mk (below_box Hb2.out)
              clear hbx h0 h1 h2 h3
              by_cases hjt : j < b.f0.length
              · obtain ⟨ad2, e2, g0, g1, g2, g3, g4⟩ := T111_at (Kd.C_below HC0.out Hbo.out) j hjt
                cases e2
                have hS := HS.out
                rw [stepsErr_at _ hjt] at hS
                generalize b.f0.getD j z111 = s at g0 g1 g2 g3 g4 hS
                by_cases hs : stepE a0 s.f0 s.f1 s.f2 s.f3 s.f4 = 0
                · rw [if_neg (by simpa using hs)] at hS
                  have hsb : (stepE a0 s.f0 s.f1 s.f2 s.f3 s.f4 != 0) = false := by simp [hs]
                  replace HS := Aside0.mk hS
                  clear hs hS
                  go_wp2_with (go_at_call 150; refine (block_step.calls _ _ _ _ _ _ _ _ rfl).mono ?_; rintro e w2 ⟨rfl, hb2⟩)
                  go_roundw
                  case rel => exact ⟨j + 1, by omega, by go_num, HS, ⟨below_alloc_then Hb2.out (box_size Hb2.out) hb2 (by have := box_size Hb2.out; simp; omega)⟩⟩
                  case measure => simp [intOf]; omega
                · rw [if_pos hs] at hS
                  have hsb : (stepE a0 s.f0 s.f1 s.f2 s.f3 s.f4 != 0) = true := by simp [hs]
                  have hr : stepE a0 s.f0 s.f1 s.f2 s.f3 s.f4 = r := by
                    have h := HE.out
                    unfold blockErr at h
                    rw [← hS] at h
                    simpa [hs] using h
                  have HR2 := Aside0.mk hr
                  clear hs hS hr
                  go_wp2_with (go_at_call 150; refine (block_step.calls _ _ _ _ _ _ _ _ rfl).mono ?_; rintro e w2 ⟨rfl, hb2⟩)
                  go_ret
                  exact ⟨ret_int HR2.out, Hbw.out.trans (below_alloc_then (below_box Hb2.out) (below_box Hb2.out).size hb2 (by have := box_size Hb2.out; simp; omega) |>.mono Hbw.out.size)⟩
              · have g1 := box_cells Hb2.out 1 rfl
                have g2 := box_cells Hb2.out 2 rfl
                have g3 := box_cells Hb2.out 3 rfl
                have gp : wr.cell? ⟨w.heap.size, 0, none⟩ = some (.slice (some ad) l1.length c1) := box_cell (Hb.out.trans (Hbo.out.mono (box_size Hb.out)))
                have HS0 : Aside0 (stepsErr a0 b.f0 = 0) := ⟨by have h := HS.out; rw [List.drop_of_length_le (by omega)] at h; exact h.symm⟩
                clear HS
                go_wp2_with (go_at_call 151; refine (block_Check_1.calls _ _ _ _ _ _ gp).mono ?_; rintro e w2 ⟨rfl, rfl⟩)
                all_goals
                  have hE := HE.out
                  simp only [blockErr, HS0.out] at hE
                  clear HE HS0 hmf
                  first
                  | (go_ret; refine ⟨ret_int ?_, Hbo.out.mono Hbw.out.size |> Hbw.out.trans⟩; grind)
                  | (go_roundw
                     case rel => exact ⟨k + 1, by omega, by go_num, ⟨by grind⟩, ⟨Hb.out.trans (Hbo.out.mono (box_size Hb.out))⟩⟩
                     case measure => simp [intOf]; omega)
          · have hr : r = 0 := by have h := HE.out; rw [List.drop_of_length_le (by omega)] at h; exact h.symm
            go_wp2
            go_ret
            exact ⟨ret_int hr.symm, Hbw.out⟩
end Go.Proofs.Ytaicamjpcnhjcaa.PA
