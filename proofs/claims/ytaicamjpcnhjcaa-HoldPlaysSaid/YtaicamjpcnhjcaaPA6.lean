/- codemasonlaw.HoldPlays of the translation: where the document's play and the program's agree, the machine's call returns true. -/
import Derived.Test.YtaicamjpcnhjcaaPA36
import Derived.Test.YtaicamjpcnhjcaaPA37
import Derived.Test.YtaicamjpcnhjcaaPA38
namespace Go.Proofs.Ytaicamjpcnhjcaa.PA
open Go.RowKit Go.Proofs.YtaicamjpcnhjcaaW.PrintWords Go.Proofs.YtaicamjpcnhjcaaW.PrintLast Go.Proofs.YtaicamjpcnhjcaaW.PrintMore
set_option linter.unusedVariables false
set_option linter.unusedSimpArgs false

/-- The document's play: misses; below 0: it can't be. -/
def refF (places : Int) : List Int → List Int → Int → List Int → Int
  | [], _, m, _ => m
  | r :: t, th, m, ot =>
    if ix r th ≥ 0 then refF places t th m ot
    else if (th.length : Int) = places then (match ot with
      | [] => -1
      | x :: o => if ix x th ≥ 0 then refF places t (th.filter (fun y => decide (y ≠ x)) ++ [r]) (m + 1) o else -1)
    else refF places t (th ++ [r]) (m + 1) ot
theorem has_ev (l : List Int) (x : Int) (hl : l.length ≤ 9223372036854775807) : Ev (fun k => codemasonref_Has.f k l x) (decide (ix x l ≥ 0)) := by
  unfold codemasonref_Has.f
  have key := down_ind (n := l.length) (P := fun i => Ev (fun k => codemasonref_Has.l0 k x l l.length i) (decide (ix x (l.drop i) ≥ 0))) ?_ ?_ 0 (by omega)
  · exact key
  · refine ev_succ ?_
    simp only [codemasonref_Has.l0, List.drop_length]
    exact ev_neg (by omega) (ev_some (by simp [ix]))
  · intro i hi ih
    refine ev_succ ?_
    simp only [codemasonref_Has.l0, wrap_nat hi hl, drop_at 0 hi, ix, ← rd_nat]
    generalize rd l i = y
    have := ix_range x (l.drop (i + 1))
    refine ev_pos (by omega) (ev_pos (by omega) (ev_pos (by omega) (ev_ite (fun h => ev_some ?_) (fun h => ev_eq ih ?_))))
    · rw [if_pos h]; simp
    · rw [if_neg h, decide_eq_decide]
      split <;> omega
def codemasonlaw_HoldPlays.f (_ : Nat) (l0 : List Int) (a1 : Int) (l2 : List Int) : Option Bool :=
  if l0.length ≤ 20 → refF a1 l0 [] 0 l2 = playF a1 l0 [] 0 l2 then some true else none
theorem filter_take {x : Int} {l : List Int} {i : Nat} (h : i < l.length) : (l.take (i + 1)).filter (fun y => decide (y ≠ x)) = (l.take i).filter (fun y => decide (y ≠ x)) ++ (if l.getD i 0 ≠ x then [l.getD i 0] else []) := by
  rw [take_at 0 h, List.filter_append]
  congr 1
  by_cases e : l.getD i 0 = x
  · simp only [e, ne_eq, not_true_eq_false, if_false, List.filter_cons, decide_false, List.filter_nil]; rfl
  · simp only [ne_eq, e, not_false_eq_true, if_true, List.filter_cons, decide_true, List.filter_nil]

/-- What Play comes to, once nothing is wrong. -/
theorem play_result {refs out : List Int} {places : Int} (h1 : refs.length ≤ 20) (h2 : 1 ≤ places) (h3 : places ≤ 8) : hold_Play.f refs places out = some (if playF places refs [] 0 out < 0 then (0, 5) else (playF places refs [] 0 out, 0)) := by
  unfold hold_Play.f hold_wrong.f
  rw [if_neg (by omega), if_neg (by omega), if_neg (by omega)]
  simp only [Option.bind_some, if_true, if_pos h1]
  split <;> rfl
theorem refF_at (places : Int) {l : List Int} {j : Nat} (h : j < l.length) (th : List Int) (m : Int) (ot : List Int) : refF places (l.drop j) th m ot =
    if ix (l.getD j 0) th ≥ 0 then refF places (l.drop (j + 1)) th m ot
    else if (th.length : Int) = places then (match ot with
      | [] => -1
      | x :: o => if ix x th ≥ 0 then refF places (l.drop (j + 1)) (th.filter (fun y => decide (y ≠ x)) ++ [l.getD j 0]) (m + 1) o else -1)
    else refF places (l.drop (j + 1)) (th ++ [l.getD j 0]) (m + 1) ot := by
  rw [drop_at 0 h]; rfl

set_option maxRecDepth 100000 in
set_option maxHeartbeats 8000000 in
theorem codemasonlaw_HoldPlays.calls (k : Nat) (A0 : Option Addr) (c0 : Nat) (l0 : List Int) (a1 : Int) (A2 : Option Addr) (c2 : Nat) (l2 : List Int) (r : Bool) (w : World) (hr0 : Kd.C (Kd.int .i64) w A0 l0.length l0) (hc0 : l0.length ≤ c0) (hr2 : Kd.C (Kd.int .i64) w A2 l2.length l2) (hc2 : l2.length ≤ c2) (h : codemasonlaw_HoldPlays.f k l0 a1 l2 = some r) :
    Calls Try.prog 6 #[.slice A0 l0.length c0, .int .i64 a1, .slice A2 l2.length c2] w fun e w' => e = .returned (.bool r) ∧ Below w.heap.size w w' := by
  unfold codemasonlaw_HoldPlays.f at h
  split at h
  rotate_left
  · cases h
  rename_i hag
  obtain rfl : true = r := Option.some.inj h
  have HR0 := Aside0.mk hr0
  have HR2 := Aside0.mk hr2
  clear h hr0 hr2
  by_cases hw : l0.length ≤ 20 ∧ 1 ≤ a1 ∧ a1 ≤ 8
  · obtain ⟨g1, g2, g3⟩ := hw
    have hx : codemasonlaw_holdCode.f l0 a1 = some 0 := by unfold codemasonlaw_holdCode.f; rw [if_neg (by omega), if_neg (by omega), if_neg (by omega)]
    have hres := play_result (out := l2) g1 g2 g3
    have hrf := hag g1
    obtain ⟨rr, hrr⟩ : ∃ rr, playF a1 l0 [] 0 l2 = rr := ⟨_, rfl⟩
    rw [hrr] at hres hrf
    obtain ⟨kk, ee, hke, hcase⟩ : ∃ kk ee : Int, hold_Play.f l0 a1 l2 = some (kk, ee) ∧ (rr < 0 ∧ kk = 0 ∧ ee = 5 ∨ 0 ≤ rr ∧ kk = rr ∧ ee = 0) := by
      rw [hres]
      by_cases h : rr < 0
      · exact ⟨0, 5, by rw [if_pos h], .inl ⟨h, rfl, rfl⟩⟩
      · exact ⟨rr, 0, by rw [if_neg h], .inr ⟨by omega, rfl, rfl⟩⟩
    have HX := Aside0.mk hx
    have HK := Aside0.mk hke
    have HF : Aside0 (refF a1 (l0.drop 0) [] 0 l2 = rr) := ⟨hrf⟩
    have HC := Aside0.mk hcase
    clear hx hres hrf hrr hke hcase hag
    go_enter Try.func6, Try.ntmps6
    go_wp2_with (first | (go_at_call 36; refine (hold_Play.calls _ _ _ _ _ _ _ _ _ _ HR0.out hc0 HR2.out hc2 HK.out).mono ?_; rintro e w2 ⟨rfl, hb2⟩; have HB2 := Aside0.mk hb2; clear hb2) | (go_at_call 37; refine (codemasonlaw_holdCode.calls _ _ _ _ _ _ (Kd.C_below HR0.out HB2.out) hc0 HX.out).mono ?_; rintro e w3 ⟨rfl, ⟨n3, rfl⟩⟩))
    go_loopw [2, 10, 11, 38] (fun o v m i wr => ∃ (j : Nat) (mm : Int) (th ot : List Int) (A : Option Addr) (c : Nat), j ≤ l0.length ∧ m = .int .i64 mm ∧ i = .int .i64 j ∧ o = .slice A ot.length c ∧ ot.length ≤ c ∧ Aside0 (Kd.C (Kd.int .i64) w A ot.length ot) ∧ Aside0 (refF a1 (l0.drop j) th mm ot = rr) ∧ 0 ≤ mm ∧ mm ≤ j ∧ th.length ≤ j ∧ Aside0 (Below w.heap.size w wr) ∧ Aside0 (Kd.R (Kd.int .i64) 3 wr w.heap.size (fun _ => True) v th)) (fun _ _ _ i _ => l0.length - (intOf i).toNat)
    case atStart => exact ⟨0, 0, [], l2, A2, c2, by omega, rfl, rfl, rfl, hc2, HR2, HF, by omega, by omega, by simp, ⟨pw_below_drewN HB2.out _⟩, ⟨Kd.R_nil _ _ _ _ _⟩⟩
    case round =>
      clear HF
      obtain ⟨j, mm, th, ot, A, c, hj, rfl, rfl, rfl, hoc, HO, HF, hm0, hmj, htj, HB, HT⟩ := hrel
      by_cases hjt : j < l0.length
      · obtain ⟨ad, e0, h0⟩ := int_at (Kd.C_below HR0.out HB.out) j hjt
        cases e0
        have hF := HF.out
        rw [refF_at _ hjt] at hF
        generalize l0.getD j 0 = x at h0 hF
        obtain ⟨At, ct, rfl, hct, hth⟩ := Kd.R_reads HT.out
        obtain ⟨q1, hq1⟩ := (has_ev th x hth.2.1).rounds
        have HQ1 := Aside0.mk hq1
        have HTC := Aside0.mk hth
        have htl := hth.2.1
        clear hq1 hth HF
        by_cases hix : ix x th ≥ 0
        · rw [if_pos hix] at hF
          rw [decide_eq_true hix] at HQ1
          have HF := Aside0.mk hF
          clear hF hix
          go_wp2_with (go_at_call 38; refine (codemasonref_Has.calls q1 _ _ _ _ _ _ HTC.out hct HQ1.out).mono ?_; rintro e w2 ⟨rfl, ⟨n2, rfl⟩⟩)
          go_roundw
          case rel => exact ⟨j + 1, mm, th, ot, A, c, by omega, rfl, by go_num, rfl, hoc, HO, HF, by omega, by omega, by omega, ⟨pw_below_drewN HB.out n2⟩, ⟨Kd.R_drewN HT.out n2⟩⟩
          case measure => simp [intOf]; omega
        · rw [if_neg hix] at hF
          rw [decide_eq_false hix] at HQ1
          clear hix
          by_cases hpl : (th.length : Int) = a1
          · rw [if_pos hpl] at hF
            have hplb : ((th.length : Int) == a1) = true := by simp [hpl]
            clear hpl
            cases ot with
            | nil =>
              have hF : (-1 : Int) = rr := hF
              rcases HC.out with ⟨h1, h2, h3⟩ | ⟨h1, _, _⟩
              · subst h2 h3
                clear hF h1 HC HK
                go_wp2_with (go_at_call 38; refine (codemasonref_Has.calls q1 _ _ _ _ _ _ HTC.out hct HQ1.out).mono ?_; rintro e w2 ⟨rfl, ⟨n2, rfl⟩⟩)
                go_ret
                exact ⟨ret_bool (by simp), pw_below_drewN HB.out _⟩
              · omega
            | cons y o =>
              rw [List.length_cons] at hoc HO
              have hol := HO.out.2.1
              obtain ⟨ad2, hA, hy⟩ := int_at (Kd.C_below HO.out HB.out) 0 (by omega)
              subst hA
              have hy' : wr.cell? ad2 = some (.int .i64 y) := by
                have : ad2.add 0 = ad2 := by unfold Addr.add; simp
                rw [this] at hy; simpa using hy
              clear hy
              obtain ⟨q2, hq2⟩ := (has_ev th y HTC.out.2.1).rounds
              have HQ2 := Aside0.mk hq2
              clear hq2
              have HTd : ∀ n, Kd.C (Kd.int .i64) (wr.drewN n) At th.length th := fun n => Kd.C_below HTC.out (pw_below_drewN (Below.refl _ _) n)
              have HTd := Aside0.mk HTd
              have hob : (((o.length : Int) + 1) == 0) = false := by rw [beq_eq_false_iff_ne]; omega
              by_cases hiy : ix y th ≥ 0
              · have hF : refF a1 (l0.drop (j + 1)) (th.filter (fun z => decide (z ≠ y)) ++ [x]) (mm + 1) o = rr := by
                  have h : (if ix y th ≥ 0 then refF a1 (l0.drop (j + 1)) (th.filter (fun z => decide (z ≠ y)) ++ [x]) (mm + 1) o else -1) = rr := hF
                  rwa [if_pos hiy] at h
                rw [decide_eq_true hiy] at HQ2
                have HF := Aside0.mk hF
                obtain ⟨i0, hi0, hz0⟩ := Option.map_eq_some_iff.1 info3
                simp only [Prod.mk.injEq] at hz0
                obtain ⟨A1, hcut, hA1⟩ := print_cut (P := Try.prog) 23 3 .i64 Try.underlying23 hi0 hz0.2.1 (some ad2) (o.length + 1) c 1 (by omega)
                have hC1 : Kd.C (Kd.int .i64) w A1 o.length o := by
                  have := hA1 w .i64 (y :: o) hoc (Kd.reads_of_C (enc := Value.int .i64) (d := (0 : Int)) (h1 := fun _ => rfl) HO.out)
                  exact Kd.C_of_reads (d := (0 : Int)) (h1 := fun _ => rfl) this
                have Hcut : ∀ W : World, (Instr.slice 23 (.slice (some ad2) (o.length + 1) c) (some (.int .i64 1)) none none).run Try.prog W = .ok (.slice A1 o.length (c - 1)) W := hcut
                have HO1 := Aside0.mk hC1
                have hc1 : o.length ≤ c - 1 := by omega
                clear hF hiy hcut hA1 hC1 hi0 hz0
                go_wp2_with fail
                refine (codemasonref_Has.calls q1 _ _ _ _ _ _ HTC.out hct HQ1.out).mono ?_
                rintro e w2 ⟨rfl, ⟨n2, rfl⟩⟩
                go_wp2_with fail
                refine (codemasonref_Has.calls q2 _ _ _ _ _ _ (HTd.out _) hct HQ2.out).mono ?_
                rintro e w3 ⟨rfl, ⟨n3, rfl⟩⟩
                go_wp2_with fail
                obtain ⟨wo, ho⟩ : ∃ wo : World, wo = wr := ⟨_, rfl⟩
                subst ho
                have hfl : (th.filter (fun z => decide (z ≠ y))).length ≤ th.length := List.length_filter_le _ _
                go_loopw [14, 70] (fun v i w' => ∃ t : Nat, t ≤ th.length ∧ i = .int .i64 t ∧ Aside0 (Below wo.heap.size wo w') ∧ Aside0 (Kd.R (Kd.int .i64) 3 w' wo.heap.size (fun _ => True) v ((th.take t).filter (fun z => decide (z ≠ y))))) (fun _ i _ => th.length - (intOf i).toNat)
                case atStart => exact ⟨0, by omega, rfl, ⟨by first | exact pw_below_drewN (Below.refl _ _) _ | exact pw_below_drewN (pw_below_drewN (Below.refl _ _) _) _⟩, ⟨Kd.R_nil _ _ _ _ _⟩⟩
                case round =>
                  obtain ⟨t, ht, rfl, Hb, Hv⟩ := hrel
                  have hy2 := pw_cell_below Hb.out hy'
                  obtain ⟨Av, cv, rfl⟩ := Kd.R_slice Hv.out
                  by_cases htt : t < th.length
                  · obtain ⟨ad3, e3, h3⟩ := int_at (Kd.C_below HTC.out Hb.out) t htt
                    cases e3
                    have hft := filter_take (x := y) htt
                    have htk : ((th.take t).filter (fun z => decide (z ≠ y))).length ≤ t := Nat.le_trans (List.length_filter_le _ _) (List.length_take_le _ _)
                    generalize th.getD t 0 = z at h3 hft
                    generalize (th.take t).filter (fun z => decide (z ≠ y)) = fl at Hv hft htk
                    clear hy' h0
                    by_cases hz : z = y
                    · rw [if_neg (by simpa using hz), List.append_nil] at hft
                      have hzb : (z != y) = false := by simp [hz]
                      have Hft := Aside0.mk hft
                      clear hz hft
                      go_wp2
                      go_roundw
                      case rel => exact ⟨t + 1, by omega, by go_num, Hb, by rw [Hft.out]; exact Hv⟩
                      case measure => simp [intOf]; omega
                    · rw [if_pos hz] at hft
                      have hzb : (z != y) = true := by simp [hz]
                      have Hft := Aside0.mk hft
                      have Hr1 : Aside0 ((fl.length + 1) * 8 ≤ 140737488355328) := ⟨by omega⟩
                      clear hz hft
                      go_wp2_with (at_builtin; go_loud (refine Kd.R_append (w0 := wo) (Kd.int .i64) wo.heap.size rfl _ _ 23 3 (.int .i64 0) 8 rfl Try.underlying23 info3 rfl (by decide) (by decide) (.slice Av fl.length cv) fl z [.int .i64 z] (fun _ => True) (fun _ => False) rfl (by simp [go_sem]) rfl (fun _ h => h.elim) (fun _ _ => trivial) Hv.out Hb.out Hb.out.size Hr1.out ?_); intro v1 w1 hR hB hg hat; have HB1 := Aside0.mk hB; have HR1 := Aside0.mk hR; clear hR hB hg hat)
                      go_roundw
                      case rel => exact ⟨t + 1, by omega, by go_num, HB1, by rw [Hft.out]; exact HR1⟩
                      case measure => simp [intOf]; omega
                  · have hv2 := Hv.out
                    have hb2 := Hb.out
                    rw [List.take_of_length_le (by omega)] at hv2
                    have Hv2 := Aside0.mk (Kd.R_lower hv2 HB.out.size)
                    have HB3 := Aside0.mk (HB.out.trans (hb2.mono HB.out.size))
                    rw [List.take_of_length_le (by omega)]
                    generalize th.filter (fun z => decide (z ≠ y)) = fl at Hv2 HF hfl
                    have Hr1 : Aside0 ((fl.length + 1) * 8 ≤ 140737488355328) := ⟨by omega⟩
                    clear hv2 hb2 hy' h0 hy2
                    go_wp2_with (at_builtin; go_loud (refine Kd.R_append (w0 := w) (Kd.int .i64) w.heap.size rfl _ _ 23 3 (.int .i64 0) 8 rfl Try.underlying23 info3 rfl (by decide) (by decide) (.slice Av fl.length cv) fl x [.int .i64 x] (fun _ => True) (fun _ => False) rfl (by simp [go_sem]) rfl (fun _ h => h.elim) (fun _ _ => trivial) Hv2.out HB3.out HB3.out.size Hr1.out ?_); intro v1 w1 hR hB hg hat; have HB1 := Aside0.mk hB; have HR1 := Aside0.mk hR; clear hR hB hg hat)
                    go_roundw
                    case rel => exact ⟨j + 1, mm + 1, fl ++ [x], o, A1, c - 1, by omega, rfl, by go_num, rfl, hc1, HO1, HF, by omega, by omega, by simp only [List.length_append, List.length_cons, List.length_nil]; omega, HB1, HR1⟩
                    case measure => simp [intOf]; omega
              · have hF : (-1 : Int) = rr := by
                  have h : (if ix y th ≥ 0 then refF a1 (l0.drop (j + 1)) (th.filter (fun z => decide (z ≠ y)) ++ [x]) (mm + 1) o else -1) = rr := hF
                  rwa [if_neg hiy] at h
                rw [decide_eq_false hiy] at HQ2
                rcases HC.out with ⟨h1, h2, h3⟩ | ⟨h1, _, _⟩
                · subst h2 h3
                  clear hF hiy h1 HC HK
                  go_wp2_with fail
                  refine (codemasonref_Has.calls q1 _ _ _ _ _ _ HTC.out hct HQ1.out).mono ?_
                  rintro e w2 ⟨rfl, ⟨n2, rfl⟩⟩
                  go_wp2_with fail
                  refine (codemasonref_Has.calls q2 _ _ _ _ _ _ (HTd.out _) hct HQ2.out).mono ?_
                  rintro e w3 ⟨rfl, ⟨n3, rfl⟩⟩
                  go_wp2_with fail
                  go_ret
                  exact ⟨ret_bool (by simp), pw_below_drewN HB.out _⟩
                · omega
          · rw [if_neg hpl] at hF
            have hplb : ((th.length : Int) == a1) = false := by simp [hpl]
            have Hr1 : Aside0 ((th.length + 1) * 8 ≤ 140737488355328) := ⟨by omega⟩
            have HF := Aside0.mk hF
            clear hpl hF
            go_wp2_with (first | (go_at_call 38; refine (codemasonref_Has.calls q1 _ _ _ _ _ _ HTC.out hct HQ1.out).mono ?_; rintro e w2 ⟨rfl, ⟨n2, rfl⟩⟩) | (at_builtin; go_loud (refine Kd.R_append (w0 := w) (Kd.int .i64) w.heap.size rfl _ _ 23 3 (.int .i64 0) 8 rfl Try.underlying23 info3 rfl (by decide) (by decide) (.slice At th.length ct) th x [.int .i64 x] (fun _ => True) (fun _ => False) rfl (by simp [go_sem]) rfl (fun _ h => h.elim) (fun _ _ => trivial) (Kd.R_drewN HT.out _) (pw_below_drewN HB.out _) (by have := HB.out.size; simpa using this) Hr1.out ?_); intro v1 w1 hR hB hg hat; have HB1 := Aside0.mk hB; have HR1 := Aside0.mk hR; clear hR hB hg hat))
            go_roundw
            case rel => exact ⟨j + 1, mm + 1, th ++ [x], ot, A, c, by omega, rfl, by go_num, rfl, hoc, HO, HF, by omega, by omega, by simp only [List.length_append, List.length_cons, List.length_nil]; omega, HB1, HR1⟩
            case measure => simp [intOf]; omega
      · have hF := HF.out
        rw [List.drop_of_length_le (by omega), refF] at hF
        rcases HC.out with ⟨h1, _, _⟩ | ⟨h1, h2, h3⟩
        · omega
        · subst h2 h3 hF
          clear HC HF HK
          go_wp2
          go_ret
          exact ⟨ret_bool (by simp), HB.out⟩
  · have hx : codemasonlaw_holdCode.f l0 a1 = some 1 := by unfold codemasonlaw_holdCode.f; grind
    have hres : hold_Play.f l0 a1 l2 = some (0, 1) := by
      have : hold_wrong.f l0 a1 = some 1 := hx
      unfold hold_Play.f
      rw [this]; rfl
    have HX := Aside0.mk hx
    have HK := Aside0.mk hres
    clear hx hres hag hw
    go_enter Try.func6, Try.ntmps6
    go_wp2_with (first | (go_at_call 36; refine (hold_Play.calls _ _ _ _ _ _ _ _ _ _ HR0.out hc0 HR2.out hc2 HK.out).mono ?_; rintro e w2 ⟨rfl, hb2⟩; have HB2 := Aside0.mk hb2; clear hb2) | (go_at_call 37; refine (codemasonlaw_holdCode.calls _ _ _ _ _ _ (Kd.C_below HR0.out HB2.out) hc0 HX.out).mono ?_; rintro e w3 ⟨rfl, ⟨n3, rfl⟩⟩))
    go_ret
    exact ⟨ret_bool (by simp), pw_below_drewN HB2.out _⟩
end Go.Proofs.Ytaicamjpcnhjcaa.PA
