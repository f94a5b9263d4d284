/- What the printed functions of FnExactOtherOdds compute answers true, at every argument of its types. No condition beside the types' own bounds. -/
import Derived.Test.YtjidebaganmeoaaPFnExactOtherOddsx
namespace Go.Proofs.Ytjidebaganmeoaa.Pure
open Go.RowKit Go.Proofs.Ytjidebaganmeoaa.PFnExactOtherOdds Go.Proofs.YtjidebaganmeoaaW.PrintWords Go.Proofs.YtjidebaganmeoaaW.PrintLast

theorem l1In_eq (a b c : Int) : spec_l1In.f a b c = some (decide (b ≤ a ∧ a ≤ c)) := by
  unfold spec_l1In.f
  by_cases h : a ≥ b
  · rw [if_pos h]
    have h2 : b ≤ a := h
    simp [h2]
  · rw [if_neg h]
    have h2 : ¬ b ≤ a := h
    simp [h2]

theorem within_eq (a b c : Int) : impl_within.f a b c = some (decide (b ≤ a ∧ a ≤ c)) := by
  unfold impl_within.f
  by_cases h : b ≤ a
  · rw [if_pos h]
    simp [h]
  · rw [if_neg h]
    simp [h]


theorem FnExactOtherOdds : ∀ (a0_0 : Int) (a0_1 : Int), (Lit.int .i64 a0_0).wf = true → (Lit.int .i64 a0_1).wf = true → laws_FnExactOtherOdds.f a0_0 a0_1 = some true := by
  intro a b _ _
  have h : ∃ x y z, impl_OtherOdds.f a b = some (x, y, z) ∧ spec_OtherOdds.f a b = some (x, y, z) := by
    unfold spec_OtherOdds.f spec_chGood.f impl_OtherOdds.f impl_AreOdds.f
    simp only [l1In_eq, within_eq, Option.bind_some]
    split
    · simp only [Option.bind_some]
      split
      · exact ⟨_, _, _, rfl, rfl⟩
      · exact ⟨_, _, _, rfl, rfl⟩
    · simp only [Option.bind_some]
      exact ⟨_, _, _, rfl, rfl⟩
  obtain ⟨x, y, z, h1, h2⟩ := h
  unfold laws_FnExactOtherOdds.f laws_toOdds.f laws_eqOdds.f
  simp only [Option.bind_some]
  rw [h1, h2]
  simp

end Go.Proofs.Ytjidebaganmeoaa.Pure
