/- hold.Play of the translation: what the machine's call comes to. -/
import Derived.Test.YtaicamjpcnhjcaaPA85
import Derived.Test.YtaicamjpcnhjcaaPA84
namespace Go.Proofs.Ytaicamjpcnhjcaa.PA
open Go.RowKit Go.Proofs.YtaicamjpcnhjcaaW.PrintWords Go.Proofs.YtaicamjpcnhjcaaW.PrintLast Go.Proofs.YtaicamjpcnhjcaaW.PrintMore
set_option linter.unusedVariables false
set_option linter.unusedSimpArgs false

def hold_Play.f (refs : List Int) (places : Int) (out : List Int) : Option (Int × Int) :=
  (hold_wrong.f refs places).bind fun e => if e = 0 then (if refs.length ≤ 20 then (if playF places refs [] 0 out < 0 then some (0, 5) else some (playF places refs [] 0 out, 0)) else none) else some (0, e)

set_option maxRecDepth 100000 in
set_option maxHeartbeats 1000000 in
theorem hold_Play.calls (A0 : Option Addr) (c0 : Nat) (l0 : List Int) (a1 : Int) (A2 : Option Addr) (c2 : Nat) (l2 : List Int) (r1 : Int) (r2 : Int) (w : World) (hr0 : Kd.C (Kd.int .i64) w A0 l0.length l0) (hc0 : l0.length ≤ c0) (hr2 : Kd.C (Kd.int .i64) w A2 l2.length l2) (hc2 : l2.length ≤ c2) (h : hold_Play.f l0 a1 l2 = some (r1, r2)) :
    Calls Try.prog 36 #[.slice A0 l0.length c0, .int .i64 a1, .slice A2 l2.length c2] w fun e w' => e = .returned (.tuple #[.int .i64 r1, .int .i64 r2]) ∧ Below w.heap.size w w' := by
  have hmf : ∀ (fn : Fn) (first cap : Array Value) (w : World), (Instr.makeFunc fn first cap).run Try.prog w = .ok (.func fn first cap) w := fun _ _ _ _ => rfl
  obtain ⟨e, he, hh⟩ := Option.bind_eq_some_iff.1 h
  have HE := Aside0.mk he
  have HR0 := Aside0.mk hr0
  have hB1 : Below w.heap.size w (w.alloc (.cells #[.slice A2 l2.length c2] 23)) := below_alloc (Below.refl _ _) _
  have HR1 := Aside0.mk (Kd.C_below hr0 hB1)
  have S0 : OutAt w (w.alloc (.cells #[.slice A2 l2.length c2] 23)) w.heap.size l2 := ⟨hB1, Nat.le_refl _, A2, c2, hc2, hr2, heap_alloc_new w _⟩
  have HS := Aside0.mk S0
  have HB1 := Aside0.mk hB1
  clear h he hr0 hr2 hB1 S0
  by_cases h0 : e = 0
  · subst h0
    simp only [if_true] at hh
    by_cases h20 : l0.length ≤ 20
    · rw [if_pos h20] at hh
      by_cases hp : playF a1 l0 [] 0 l2 < 0
      · rw [if_pos hp, Option.some.injEq, Prod.mk.injEq] at hh
        obtain ⟨rfl, rfl⟩ := hh
        go_enter Try.func36, Try.ntmps36
        go_wp2_with (first | (go_at_call 84; refine (hold_wrong.calls _ _ _ _ _ _ HR1.out hc0 HE.out).mono ?_; rintro e w2 ⟨rfl, ⟨n2, rfl⟩⟩) | (go_at_call 85; refine (hold_play.calls w _ w.heap.size l2 (HS.out.drewN _) A0 c0 l0 a1 HR0.out hc0 h20).mono ?_; rintro e w3 ⟨rfl, hb3⟩; have HB3 := Aside0.mk hb3; clear hb3))
        go_ret2
        exact ⟨rfl, HB3.out⟩
      · rw [if_neg hp, Option.some.injEq, Prod.mk.injEq] at hh
        obtain ⟨rfl, rfl⟩ := hh
        go_enter Try.func36, Try.ntmps36
        go_wp2_with (first | (go_at_call 84; refine (hold_wrong.calls _ _ _ _ _ _ HR1.out hc0 HE.out).mono ?_; rintro e w2 ⟨rfl, ⟨n2, rfl⟩⟩) | (go_at_call 85; refine (hold_play.calls w _ w.heap.size l2 (HS.out.drewN _) A0 c0 l0 a1 HR0.out hc0 h20).mono ?_; rintro e w3 ⟨rfl, hb3⟩; have HB3 := Aside0.mk hb3; clear hb3))
        go_ret2
        exact ⟨rfl, HB3.out⟩
    · rw [if_neg h20] at hh
      cases hh
  · rw [if_neg h0, Option.some.injEq, Prod.mk.injEq] at hh
    obtain ⟨rfl, rfl⟩ := hh
    have heb : (e != 0) = true := by simp [h0]
    clear h0
    go_enter Try.func36, Try.ntmps36
    go_wp2_with (go_at_call 84; refine (hold_wrong.calls _ _ _ _ _ _ HR1.out hc0 HE.out).mono ?_; rintro e w2 ⟨rfl, ⟨n2, rfl⟩⟩)
    go_ret2
    exact ⟨rfl, pw_below_drewN HB1.out n2⟩
end Go.Proofs.Ytaicamjpcnhjcaa.PA
