/- impl.RoundsFor, walked where there is no round. -/
import Derived.Test.YtpaffojjkkmnlaaPFnExactRoundsForx2
namespace Go.Proofs.Ytpaffojjkkmnlaa.PFnExactRoundsFor
open Go.RowKit Go.Proofs.YtpaffojjkkmnlaaW.PrintWords Go.Proofs.YtpaffojjkkmnlaaW.PrintLast Go.Proofs.YtpaffojjkkmnlaaW.PrintMore
set_option linter.unusedVariables false
set_option linter.unusedSimpArgs false
theorem within_eq (a : Int) : impl_within.f a 2 8 = some (decide (2 ≤ a ∧ a ≤ 8)) := by
  unfold impl_within.f
  by_cases h : 2 ≤ a
  · rw [if_pos h]
    simp [h]
  · rw [if_neg h]
    simp [h]
set_option maxHeartbeats 8000000 in
set_option maxRecDepth 100000 in
theorem impl_RoundsFor.callsN (a0 : Int) (hf : ¬ ((2 ≤ a0 ∧ a0 ≤ 8) ∧ Int.tmod a0 2 = 0)) (w : World) :
    Calls Try.prog 5 #[.int .i64 a0] w fun e w' => e = .returned (.tuple #[.slice none 0 0, .bool false]) ∧ Below w.heap.size w w' := by
  have hw := within_eq a0
  by_cases c : 2 ≤ a0 ∧ a0 ≤ 8
  · rw [decide_eq_true c] at hw
    have hm : ¬ Int.tmod a0 2 = 0 := fun e => hf ⟨c, e⟩
    have hmb : (Int.tmod a0 2 != 0) = true := bne_iff_ne.2 hm
    have hmc : (Int.tmod a0 2 == 0) = false := beq_eq_false_iff_ne.2 hm
    have HW := Aside0.mk hw
    clear hw c hf hm
    go_enter Try.func5, Try.ntmps5
    go_wp2_with (go_at_call 10; (with_reducible refine (impl_within.calls a0 2 8 true _ HW.out).mono ?_); rintro e w' ⟨rfl, ⟨nd, rfl⟩⟩)
    go_ret2
    exact ⟨rfl, by repeat (first | exact Below.refl _ _ | apply pw_below_drewN | apply below_drew1)⟩
  · rw [decide_eq_false c] at hw
    have HW := Aside0.mk hw
    clear hw c hf
    go_enter Try.func5, Try.ntmps5
    go_wp2_with (go_at_call 10; (with_reducible refine (impl_within.calls a0 2 8 false _ HW.out).mono ?_); rintro e w' ⟨rfl, ⟨nd, rfl⟩⟩)
    go_ret2
    exact ⟨rfl, by repeat (first | exact Below.refl _ _ | apply pw_below_drewN | apply below_drew1)⟩
end Go.Proofs.Ytpaffojjkkmnlaa.PFnExactRoundsFor
