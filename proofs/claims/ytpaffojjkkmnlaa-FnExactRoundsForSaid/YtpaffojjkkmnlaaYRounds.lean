/- What the law of RoundsFor asks, at every argument. -/
import Derived.Test.YtpaffojjkkmnlaaGLaw
import Derived.Test.YtpaffojjkkmnlaaGRF
import Derived.Test.YtpaffojjkkmnlaaGRN
namespace Go.Proofs.Ytpaffojjkkmnlaa.PFnExactRoundsFor
open Go.RowKit Go.Proofs.YtpaffojjkkmnlaaW.PrintWords Go.Proofs.YtpaffojjkkmnlaaW.PrintLast Go.Proofs.YtpaffojjkkmnlaaW.PrintMore
set_option linter.unusedVariables false
set_option linter.unusedSimpArgs false
theorem says_good (a0 : Int) (n h : Nat) (ha : a0 = 2 * ((h + 1 : Nat) : Int)) (hh : h < 4) (hn : wrap64 (a0 - 1) = (n : Int)) : ImplSays a0 (roundsK (wrap64 (a0 - 1)) h n) true := fun w => impl_RoundsFor.callsS a0 n h ha hh hn w
theorem says_none (a0 : Int) (hf : ¬ ((2 ≤ a0 ∧ a0 ≤ 8) ∧ Int.tmod a0 2 = 0)) : ImplSays a0 [] false := fun w => (impl_RoundsFor.callsN a0 hf w).mono (by
  rintro e w' ⟨rfl, hb⟩
  exact ⟨_, rfl, Kd.S_nil _ _ _ _ _, hb⟩)
def Asks (a0 : Int) : Prop := ∃ (k : Nat) (R R2 : List (List (List Int))) (b : Bool) (m : Int), spec_RoundsFor.f k a0 = some (R, b) ∧ ImplSays a0 R b ∧ laws_eqIntSSS.f k R R = some true ∧ laws_markIntSSS.f k R 1 = some (m, R2) ∧ laws_heldIntSSS.f k R2 1 = some m ∧ 0 ≤ m
theorem asks_2 : Asks 2 := ⟨60, (roundsK (wrap64 (2 - 1)) 0 1), ((laws_markIntSSS.f 60 (roundsK (wrap64 (2 - 1)) 0 1) 1).getD (0, [])).2, true, ((laws_markIntSSS.f 60 (roundsK (wrap64 (2 - 1)) 0 1) 1).getD (0, [])).1, by kernel_rfl, says_good 2 1 0 (by kernel_rfl) (by omega) (by kernel_rfl), by kernel_rfl, by kernel_rfl, by kernel_rfl, of_decide_eq_true (by kernel_rfl)⟩
theorem asks_4 : Asks 4 := ⟨60, (roundsK (wrap64 (4 - 1)) 1 3), ((laws_markIntSSS.f 60 (roundsK (wrap64 (4 - 1)) 1 3) 1).getD (0, [])).2, true, ((laws_markIntSSS.f 60 (roundsK (wrap64 (4 - 1)) 1 3) 1).getD (0, [])).1, by kernel_rfl, says_good 4 3 1 (by kernel_rfl) (by omega) (by kernel_rfl), by kernel_rfl, by kernel_rfl, by kernel_rfl, of_decide_eq_true (by kernel_rfl)⟩
theorem asks_6 : Asks 6 := ⟨60, (roundsK (wrap64 (6 - 1)) 2 5), ((laws_markIntSSS.f 60 (roundsK (wrap64 (6 - 1)) 2 5) 1).getD (0, [])).2, true, ((laws_markIntSSS.f 60 (roundsK (wrap64 (6 - 1)) 2 5) 1).getD (0, [])).1, by kernel_rfl, says_good 6 5 2 (by kernel_rfl) (by omega) (by kernel_rfl), by kernel_rfl, by kernel_rfl, by kernel_rfl, of_decide_eq_true (by kernel_rfl)⟩
theorem asks_8 : Asks 8 := ⟨60, (roundsK (wrap64 (8 - 1)) 3 7), ((laws_markIntSSS.f 60 (roundsK (wrap64 (8 - 1)) 3 7) 1).getD (0, [])).2, true, ((laws_markIntSSS.f 60 (roundsK (wrap64 (8 - 1)) 3 7) 1).getD (0, [])).1, by kernel_rfl, says_good 8 7 3 (by kernel_rfl) (by omega) (by kernel_rfl), by kernel_rfl, by kernel_rfl, by kernel_rfl, of_decide_eq_true (by kernel_rfl)⟩
theorem l1In_eq (a : Int) : spec_l1In.f a 2 8 = some (decide (2 ≤ a ∧ a ≤ 8)) := by
  unfold spec_l1In.f
  by_cases h : a ≥ 2
  · rw [if_pos h]
    have h2 : 2 ≤ a := h
    simp [h2]
  · rw [if_neg h]
    have h2 : ¬ 2 ≤ a := h
    simp [h2]
theorem asks (a0 : Int) : Asks a0 := by
  by_cases c : (2 ≤ a0 ∧ a0 ≤ 8) ∧ Int.tmod a0 2 = 0
  · obtain ⟨⟨c1, c2⟩, c3⟩ := c
    have : a0 = 2 ∨ a0 = 3 ∨ a0 = 4 ∨ a0 = 5 ∨ a0 = 6 ∨ a0 = 7 ∨ a0 = 8 := by omega
    rcases this with rfl | rfl | rfl | rfl | rfl | rfl | rfl
    · exact asks_2
    · exact absurd c3 (by decide)
    · exact asks_4
    · exact absurd c3 (by decide)
    · exact asks_6
    · exact absurd c3 (by decide)
    · exact asks_8
  · refine ⟨60, [], [], false, 1, ?_, says_none a0 c, by kernel_rfl, by kernel_rfl, by kernel_rfl, by omega⟩
    unfold spec_RoundsFor.f
    rw [l1In_eq]
    by_cases d : 2 ≤ a0 ∧ a0 ≤ 8
    · have hm : ¬ Int.tmod a0 2 = 0 := fun e => c ⟨d, e⟩
      have h1 : Int.tmod a0 2 = 1 := by
        have : a0 = 2 ∨ a0 = 3 ∨ a0 = 4 ∨ a0 = 5 ∨ a0 = 6 ∨ a0 = 7 ∨ a0 = 8 := by omega
        rcases this with rfl | rfl | rfl | rfl | rfl | rfl | rfl <;> first | rfl | exact absurd rfl hm
      rw [decide_eq_true d, h1]
      simp [spec_RoundsFor.j0]
    · rw [decide_eq_false d]
      simp [spec_RoundsFor.j0]
end Go.Proofs.Ytpaffojjkkmnlaa.PFnExactRoundsFor
