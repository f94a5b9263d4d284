/- What the printed functions of FnExactDeuceChance compute answers true, at every argument of its types. No condition beside the types' own bounds. -/
import Derived.Test.YtmkjkcfmjfeheaaQFnExactDeuceChancex
import Derived.Test.YtmkjkcfmjfeheaaGDC
namespace Go.Proofs.Ytmkjkcfmjfeheaa.Pure
open Go.RowKit Go.Proofs.Ytmkjkcfmjfeheaa.QFnExactMeanDeuce Go.Proofs.YtmkjkcfmjfeheaaW.PrintWords Go.Proofs.YtmkjkcfmjfeheaaW.PrintLast

set_option linter.unusedVariables false
set_option linter.unusedSimpArgs false
theorem chOpen_val (a b : Int) : spec_chOpen.f a b = some (decide (0 < a ∧ a < b ∧ b ≤ 10)) := by
  unfold spec_chOpen.f spec_chGood.f spec_l1In.f
  by_cases h1 : b ≥ 1
  · rw [if_pos h1]
    by_cases h2 : b ≤ 10
    · have hw : wrap64 (b - 1) = b - 1 := by unfold wrap64; omega
      rw [decide_eq_true h2, hw]
      by_cases h3 : a ≥ 0
      · rw [if_pos h3]
        by_cases h4 : a ≤ b
        · rw [decide_eq_true h4]
          by_cases h5 : a ≥ 1
          · rw [if_pos h5]
            have e : decide (a ≤ b - 1) = decide (0 < a ∧ a < b ∧ b ≤ 10) := by
              by_cases h6 : a < b
              · rw [decide_eq_true (show a ≤ b - 1 by omega), decide_eq_true ⟨by omega, h6, h2⟩]
              · rw [decide_eq_false (show ¬ a ≤ b - 1 by omega), decide_eq_false (by omega)]
            simp [e]
          · rw [if_neg h5, decide_eq_false (show ¬ (0 < a ∧ a < b ∧ b ≤ 10) by omega)]
            simp
        · rw [decide_eq_false h4, decide_eq_false (show ¬ (0 < a ∧ a < b ∧ b ≤ 10) by omega)]
          simp
      · rw [if_neg h3, decide_eq_false (show ¬ (0 < a ∧ a < b ∧ b ≤ 10) by omega)]
        simp
    · rw [decide_eq_false h2, decide_eq_false (show ¬ (0 < a ∧ a < b ∧ b ≤ 10) by omega)]
      simp
  · rw [if_neg h1, decide_eq_false (show ¬ (0 < a ∧ a < b ∧ b ≤ 10) by omega)]
    simp
def same (a b : Int) : Bool := match spec_DeuceChance.f 60 a b with
  | some (x, y, t) => decide (x = (dF a b).1) && decide (y = ((dF a b).2 : Int)) && t
  | none => false
theorem same_to {a b : Int} (h : same a b = true) : spec_DeuceChance.f 60 a b = some ((dF a b).1, ((dF a b).2 : Int), true) := by
  unfold same at h
  cases hs : spec_DeuceChance.f 60 a b with
  | none => rw [hs] at h; cases h
  | some p =>
    obtain ⟨x, y, t⟩ := p
    rw [hs] at h
    simp only [Bool.and_eq_true, decide_eq_true_eq] at h
    rw [h.1.1, h.1.2, h.2]
theorem spec_all : ∀ i, i < 11 → ∀ j, j < 11 → 0 < i → i < j → same (i : Nat) (j : Nat) = true := by decide +kernel
theorem spec_nat (i : Nat) (hi : i < 11) (j : Nat) (hj : j < 11) (h0 : 0 < i) (h1 : i < j) : spec_DeuceChance.f 60 (i : Nat) (j : Nat) = some ((dF (i : Nat) (j : Nat)).1, ((dF (i : Nat) (j : Nat)).2 : Int), true) := same_to (spec_all i hi j hj h0 h1)
theorem spec_is (a b : Int) : spec_DeuceChance.f 60 a b = impl_DeuceChance.f a b := by
  unfold impl_DeuceChance.f
  rw [isOpen_val]
  by_cases h : 0 < a ∧ a < b ∧ b ≤ 10
  · have h1 := spec_nat a.toNat (by omega) b.toNat (by omega) (by omega) (by omega)
    rw [Int.toNat_of_nonneg (by omega), Int.toNat_of_nonneg (by omega)] at h1
    rw [h1, decide_eq_true h]
    rfl
  · unfold spec_DeuceChance.f
    rw [chOpen_val, decide_eq_false h]
    rfl
theorem FnExactDeuceChance : ∀ (a0_0 : Int) (a0_1 : Int), (Lit.int .i64 a0_0).wf = true → (Lit.int .i64 a0_1).wf = true → ∃ k, laws_FnExactDeuceChance.f k a0_0 a0_1 = some true := by
  intro a b _ _
  refine ⟨60, ?_⟩
  obtain ⟨r, hr⟩ : ∃ r, impl_DeuceChance.f a b = some r := by
    unfold impl_DeuceChance.f
    rw [isOpen_val, Option.bind_some]
    split <;> exact ⟨_, rfl⟩
  unfold laws_FnExactDeuceChance.f laws_toOdds.f
  simp only [Option.bind_some]
  rw [spec_is, hr]
  simp

end Go.Proofs.Ytmkjkcfmjfeheaa.Pure
