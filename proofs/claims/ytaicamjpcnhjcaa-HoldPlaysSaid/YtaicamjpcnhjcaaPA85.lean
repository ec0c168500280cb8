/- hold.play of the translation, with the choice that hold.Play hands it: what the machine's call comes to. -/
import Derived.Test.YtaicamjpcnhjcaaPA86
namespace Go.Proofs.Ytaicamjpcnhjcaa.PA
open Go.RowKit Go.Proofs.YtaicamjpcnhjcaaW.PrintWords Go.Proofs.YtaicamjpcnhjcaaW.PrintLast Go.Proofs.YtaicamjpcnhjcaaW.PrintMore
set_option linter.unusedVariables false
set_option linter.unusedSimpArgs false

/-- Misses; below 0: it can't be. -/
def playF (places : Int) : List Int → List Int → Int → List Int → Int
  | [], _, m, _ => m
  | r :: t, th, m, ot =>
    if ix r th ≥ 0 then playF places t th m ot
    else if (th.length : Int) = places then (if goesI th ot < 0 then -1 else playF places t (th.eraseIdx (goesI th ot).toNat ++ [r]) (m + 1) (goesO ot))
    else playF places t (th ++ [r]) (m + 1) ot
theorem playF_at (places : Int) {l : List Int} {j : Nat} (h : j < l.length) (th : List Int) (m : Int) (ot : List Int) : playF places (l.drop j) th m ot =
    if ix (l.getD j 0) th ≥ 0 then playF places (l.drop (j + 1)) th m ot
    else if (th.length : Int) = places then (if goesI th ot < 0 then -1 else playF places (l.drop (j + 1)) (th.eraseIdx (goesI th ot).toNat ++ [l.getD j 0]) (m + 1) (goesO ot))
    else playF places (l.drop (j + 1)) (th ++ [l.getD j 0]) (m + 1) ot := by
  rw [drop_at 0 h]; rfl
theorem goesI_range (th ot : List Int) : -1 ≤ goesI th ot ∧ goesI th ot < th.length := by
  cases ot with
  | nil => simp only [goesI]; omega
  | cons x o => exact ix_range x th
theorem OutAt.drewN {w0 w : World} {p : Nat} {ot : List Int} (S : OutAt w0 w p ot) (n : Nat) : OutAt w0 (w.drewN n) p ot := ⟨pw_below_drewN S.below n, S.gp, S.cell⟩
theorem OutAt.other {w0 w w1 : World} {p : Nat} {ot : List Int} (S : OutAt w0 w p ot) (hB : Below w0.heap.size w0 w1) (h : w1.heap[p]? = w.heap[p]?) : OutAt w0 w1 p ot := by
  obtain ⟨A, c, h1, h2, h3⟩ := S.cell
  exact ⟨hB, S.gp, A, c, h1, h2, h.trans h3⟩
theorem OutAt.lt {w0 w : World} {p : Nat} {ot : List Int} (S : OutAt w0 w p ot) : p < w.heap.size := by
  obtain ⟨A, c, h1, h2, h3⟩ := S.cell
  exact (Array.getElem?_eq_some_iff.1 h3).1

set_option maxRecDepth 100000 in
set_option maxHeartbeats 4000000 in
theorem hold_play.calls (w0 w : World) (p : Nat) (ot : List Int) (S : OutAt w0 w p ot) (A : Option Addr) (c : Nat) (refs : List Int) (places : Int) (hr : Kd.C (Kd.int .i64) w0 A refs.length refs) (hc : refs.length ≤ c) (h20 : refs.length ≤ 20) :
    Calls Try.prog 85 #[.slice A refs.length c, .int .i64 places, .bool false, .func (.func 86) #[] #[.pointer (some ⟨p, 0, none⟩)]] w fun e w' => e = .returned (.int .i64 (playF places refs [] 0 ot)) ∧ Below w0.heap.size w0 w' := by
  have HR := Aside0.mk hr
  obtain ⟨r, hpl⟩ : ∃ r, playF places refs [] 0 ot = r := ⟨_, rfl⟩
  rw [hpl]
  have HP : Aside0 (playF places (refs.drop 0) [] 0 ot = r) := ⟨hpl⟩
  have HS := Aside0.mk S
  have hp := S.lt
  clear hpl S hr
  go_enter Try.func85, Try.ntmps85
  go_wp2_with fail
  go_loopw [9, 10, 17] (fun v m i wr => ∃ (j : Nat) (mm : Int) (th ot : List Int), j ≤ refs.length ∧ m = .int .i64 mm ∧ i = .int .i64 j ∧ Aside0 (playF places (refs.drop j) th mm ot = r) ∧ 0 ≤ mm ∧ mm ≤ j ∧ th.length ≤ j ∧ Aside0 (OutAt w0 wr p ot) ∧ Aside0 (Kd.R (Kd.int .i64) 3 wr w0.heap.size (fun k => k ≠ p) v th)) (fun _ _ i _ => refs.length - (intOf i).toNat)
  case atStart => exact ⟨0, 0, [], ot, by omega, rfl, rfl, HP, by omega, by omega, by simp, HS, ⟨Kd.R_nil _ _ _ _ _⟩⟩
  case round =>
    clear HS HP hp
    obtain ⟨j, mm, th, ot, hj, rfl, rfl, HP, hm0, hmj, htj, HS, HO⟩ := hrel
    have S := HS.out
    by_cases hjt : j < refs.length
    · obtain ⟨ad, e0, h0⟩ := int_at (Kd.C_below HR.out S.below) j hjt
      cases e0
      have hP := HP.out
      rw [playF_at _ hjt] at hP
      generalize refs.getD j 0 = x at h0 hP
      obtain ⟨At, ct, rfl, hct, hth⟩ := Kd.R_reads HO.out
      obtain ⟨kk, hk⟩ := (index_ev th x hth.2.1).rounds
      have HK := Aside0.mk hk
      have HT := Aside0.mk hth
      have hixr := ix_range x th
      have htl := hth.2.1
      clear hk hth HP S
      by_cases hix : ix x th ≥ 0
      · rw [if_pos hix] at hP
        have HP := Aside0.mk hP
        clear hP
        go_wp2_with (go_at_call 87; refine (slices_Index_int_int.calls kk _ _ _ _ _ _ HT.out hct HK.out).mono ?_; rintro e w2 ⟨rfl, ⟨n2, rfl⟩⟩)
        go_roundw
        case rel => exact ⟨j + 1, mm, th, ot, by omega, rfl, by go_num, HP, by omega, by omega, by omega, ⟨HS.out.drewN n2⟩, ⟨Kd.R_drewN HO.out n2⟩⟩
        case measure => simp [intOf]; omega
      · rw [if_neg hix] at hP
        by_cases hpl : (th.length : Int) = places
        · rw [if_pos hpl] at hP
          subst hpl
          have hfar : ∀ ad, At = some ad → 0 < th.length → ad.block ≠ p := fun ad e _ => HO.out.1 ad.block (by rw [e]; rfl)
          have hgr := goesI_range th ot
          have hB0 : ∀ n, Below wr.heap.size wr (wr.drewN n) := fun n => pw_below_drewN (Below.refl _ _) n
          have Hg : Aside0 (∀ n, Calls Try.prog 86 #[.int .i64 j, .slice At th.length ct, .pointer (some ⟨p, 0, none⟩)] (wr.drewN n) fun e w' => e = .returned (.int .i64 (goesI th ot)) ∧ OutAt w0 w' p (goesO ot) ∧ (wr.drewN n).grownBy w' (some p)) :=
            ⟨fun n => hold_goes.calls w0 (wr.drewN n) p ot th j (HS.out.drewN n) At ct (Kd.C_below HT.out (hB0 n)) hct hfar⟩
          have hlb : ((th.length : Int) == (th.length : Int)) = true := by simp
          clear hfar hB0
          by_cases hgo : goesI th ot < 0
          · rw [if_pos hgo] at hP
            subst hP
            clear hixr hgr
            go_wp2_with (first | (go_at_call 87; refine (slices_Index_int_int.calls kk _ _ _ _ _ _ HT.out hct HK.out).mono ?_; rintro e w2 ⟨rfl, ⟨n2, rfl⟩⟩) | (go_at_call 86; refine (Hg.out _).mono ?_; rintro e w3 ⟨rfl, hO3, hg3⟩; have HO3 := Aside0.mk hO3; clear hO3 hg3))
            go_ret
            exact ⟨rfl, HO3.out.below⟩
          · rw [if_neg hgo] at hP
            obtain ⟨q, hq⟩ := Int.eq_ofNat_of_zero_le (show 0 ≤ goesI th ot by omega)
            rw [hq, Int.toNat_natCast] at hP
            rw [hq] at Hg hgr
            have hqt : q < th.length := by omega
            obtain ⟨g, cap, hv, hbg, _, _⟩ := Kd.R_form HO.out (by omega)
            injection hv with hv1 hv2 hv3
            subst hv1
            subst hv3
            have hgp : g ≠ p := HO.out.1 g rfl
            have HP := Aside0.mk hP
            have hel : (th.eraseIdx q).length = th.length - 1 := List.length_eraseIdx_of_lt hqt
            have Hr1 : Aside0 (((th.eraseIdx q).length + 1) * 8 ≤ 140737488355328) := ⟨by omega⟩
            have Hel := Aside0.mk hel
            clear hgo hq hP hgr hel hixr
            go_wp2_with (first | (go_at_call 87; refine (slices_Index_int_int.calls kk _ _ _ _ _ _ HT.out hct HK.out).mono ?_; rintro e w2 ⟨rfl, ⟨n2, rfl⟩⟩) | (go_at_call 86; refine (Hg.out _).mono ?_; rintro e w3 ⟨rfl, hO3, hg3⟩; have HO3 := Aside0.mk hO3; have HR3 := Aside0.mk (Kd.R_grown (Kd.R_drewN HO.out _) hg3 (fun k hk e => hk (Option.some.inj e))); clear hO3 hg3) | (go_at_call 153; refine (delete_own (base := w0.heap.size) (Kd.own_of_R HR3.out) hqt).mono ?_; rintro e w4 ⟨rfl, ho4, hg4⟩; have HO4 := Aside0.mk (HO3.out.other (HO3.out.below.grown hg4 HO3.out.below.size (fun k e => by cases e; exact hbg)) (hg4.block p HO3.out.lt (fun e => hgp (Option.some.inj e).symm))); have HR4 : Aside0 (Kd.R (Kd.int .i64) 3 w4 w0.heap.size (fun k => k ≠ p) (.slice (some ⟨g, 0, none⟩) (th.eraseIdx q).length ct) (th.eraseIdx q)) := ⟨Kd.R_of_own ho4 (fun k e => by cases e; exact hgp)⟩; clear ho4 hg4) | (at_builtin; go_loud (refine Kd.R_append (w0 := w0) (Kd.int .i64) w0.heap.size rfl _ _ 23 3 (.int .i64 0) 8 rfl Try.underlying23 info3 rfl (by decide) (by decide) (.slice (some ⟨g, 0, none⟩) (th.eraseIdx q).length ct) (th.eraseIdx q) x [.int .i64 x] (fun k => k ≠ p) (fun _ => False) rfl (by simp [go_sem]) rfl (fun _ h => h.elim) (fun k hk => by have := HO4.out.lt; (try simp at hk); omega) HR4.out HO4.out.below HO4.out.below.size Hr1.out ?_); intro v1 w1 hR hB hg hat; have HS1 := Aside0.mk (HO4.out.other hB (hg.block p HO4.out.lt (fun e => hgp (Option.some.inj e).symm))); have HR1 := Aside0.mk hR; clear hR hB hg hat))
            go_roundw
            case rel => exact ⟨j + 1, mm + 1, th.eraseIdx q ++ [x], goesO ot, by omega, rfl, by go_num, HP, by omega, by omega, by rw [List.length_append, Hel.out]; simp only [List.length_cons, List.length_nil]; omega, HS1, HR1⟩
            case measure => simp [intOf]; omega
        · rw [if_neg hpl] at hP
          have HP := Aside0.mk hP
          have hplb : ((th.length : Int) == places) = false := by simp [hpl]
          have Hr1 : Aside0 ((th.length + 1) * 8 ≤ 140737488355328) := ⟨by omega⟩
          clear hP hpl
          go_wp2_with (first | (go_at_call 87; refine (slices_Index_int_int.calls kk _ _ _ _ _ _ HT.out hct HK.out).mono ?_; rintro e w2 ⟨rfl, ⟨n2, rfl⟩⟩) | (at_builtin; go_loud (refine Kd.R_append (w0 := w0) (Kd.int .i64) w0.heap.size rfl _ _ 23 3 (.int .i64 0) 8 rfl Try.underlying23 info3 rfl (by decide) (by decide) (.slice At th.length ct) th x [.int .i64 x] (fun k => k ≠ p) (fun _ => False) rfl (by simp [go_sem]) rfl (fun _ h => h.elim) (fun k hk => by have := HS.out.lt; simp at hk; omega) (Kd.R_drewN HO.out _) (pw_below_drewN HS.out.below _) (by have := HS.out.below.size; simpa using this) Hr1.out ?_); intro v1 w1 hR hB hg hat; have HS1 := Aside0.mk ((HS.out.drewN _).other hB (hg.block p (HS.out.drewN _).lt (fun e => HO.out.1 p e.symm rfl))); have HR1 := Aside0.mk hR; clear hR hB hg hat))
          go_roundw
          case rel => exact ⟨j + 1, mm + 1, th ++ [x], ot, by omega, rfl, by go_num, HP, by omega, by omega, by simp only [List.length_append, List.length_cons, List.length_nil]; omega, HS1, HR1⟩
          case measure => simp [intOf]; omega
    · have hP := HP.out
      rw [List.drop_of_length_le (by omega), playF] at hP
      subst hP
      clear HP
      go_wp2
      go_ret
      exact ⟨rfl, HS.out.below⟩
end Go.Proofs.Ytaicamjpcnhjcaa.PA
