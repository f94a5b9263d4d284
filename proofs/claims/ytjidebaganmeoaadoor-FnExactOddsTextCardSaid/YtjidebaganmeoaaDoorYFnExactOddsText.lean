/- What the printed functions of FnExactOddsText compute answers true, at every argument of its types. No condition beside the types' own bounds. -/
import Derived.Test.YtjidebaganmeoaaDoorGItoa
import Derived.Test.YtjidebaganmeoaaDoorQFnExactOddsTextx
namespace Go.Proofs.YtjidebaganmeoaaDoor.Pure
open Go.RowKit Go.Proofs.YtjidebaganmeoaaDoor.QFnExactOddsText Go.Proofs.YtjidebaganmeoaaDoorW.PrintWords Go.Proofs.YtjidebaganmeoaaDoorW.PrintLast Go.Proofs.YtjidebaganmeoaaDoorW.PrintMore
set_option linter.unusedVariables false
set_option linter.unusedSimpArgs false
set_option linter.unusedSectionVars false

theorem ev_some {α : Type} {g : Nat → Option α} {r : α} (h : ∀ k, g (k + 1) = some r) : Ev g r := Ev.step h (Ev.now r)
theorem ev_const {α : Type} {g : Nat → Option α} {r : α} (h : ∀ k, g k = some r) : Ev g r := ⟨0, fun k _ => h k⟩
theorem wrap_id {i : Int} (h0 : -9223372036854775808 ≤ i) (h1 : i ≤ 9223372036854775807) : wrap64 i = i := by unfold wrap64; omega

theorem l1In_eq (a b c : Int) : spec_l1In.f a b c = some (decide (b ≤ a ∧ a ≤ c)) := by
  unfold spec_l1In.f
  by_cases h : a ≥ b
  · rw [if_pos h]
    have h2 : b ≤ a := h
    simp [h2]
  · rw [if_neg h]
    have h2 : ¬ b ≤ a := h
    simp [h2]
theorem within_eq (a b c : Int) : impl_within.f a b c = some (decide (b ≤ a ∧ a ≤ c)) := by
  unfold impl_within.f
  by_cases h : b ≤ a
  · rw [if_pos h]
    simp [h]
  · rw [if_neg h]
    simp [h]

def goodO (a b : Int) : Bool := decide (1 ≤ b ∧ b ≤ 10) && decide (0 ≤ a ∧ a ≤ b)
theorem chGood_eq (a b : Int) : spec_chGood.f a b = some (goodO a b) := by
  unfold spec_chGood.f goodO
  rw [l1In_eq, Option.bind_some]
  cases decide (1 ≤ b ∧ b ≤ 10)
  · rfl
  · rw [if_pos rfl, l1In_eq]; rfl
theorem areOdds_eq (a b : Int) : impl_AreOdds.f a b = some (goodO a b) := by
  unfold impl_AreOdds.f goodO
  rw [within_eq, Option.bind_some]
  cases decide (1 ≤ b ∧ b ≤ 10)
  · rfl
  · rw [if_pos rfl, within_eq]; rfl
theorem toOdds_eq (a b : Int) : laws_toOdds.f a b = some (a, b) := rfl

/-- A number below a hundred in decimal: the reference's own way and the library's. -/
theorem num_all : ∀ n : Nat, n < 100 → spec_l1Num.f 3 (n : Int) = some ⟨(Lib.decDigits n).toArray⟩ := by decide +kernel
theorem num_ev (z : Int) (h0 : 0 ≤ z) (h1 : z < 100) : Ev (fun k => spec_l1Num.f k z) ⟨(Lib.decDigits z.toNat).toArray⟩ := by
  have e : ((z.toNat : Nat) : Int) = z := Int.toNat_of_nonneg h0
  have := num_all z.toNat (by omega)
  rw [e] at this
  exact Ev.of (fun k => spec_l1Num.mono z k) this
theorem num_size (n : Nat) (h : n < 100) : (⟨(Lib.decDigits n).toArray⟩ : ByteArray).size ≤ 2 := by
  revert n
  decide +kernel
theorem itoa_eq (z : Int) (h0 : 0 ≤ z) (h1 : z < 100) : strconv_Itoa.f z = some ⟨(Lib.decDigits z.toNat).toArray⟩ := by
  unfold strconv_Itoa.f
  rw [if_pos ⟨h0, h1⟩]

theorem FnExactOddsText : ∀ (a0_0 : Int) (a0_1 : Int), (Lit.int .i64 a0_0).wf = true → (Lit.int .i64 a0_1).wf = true → ∃ k, laws_FnExactOddsText.f k a0_0 a0_1 = some true := by
  intro a b _ _
  refine Ev.rounds ?_
  unfold laws_FnExactOddsText.f
  simp only [toOdds_eq, Option.bind_some]
  have both : ∃ v : ByteArray × Bool, Ev (fun k => spec_OddsText.f k a b) v ∧ impl_OddsText.f a b = some v := by
    unfold spec_OddsText.f impl_OddsText.f
    rw [chGood_eq, areOdds_eq]
    simp only [Option.bind_some]
    cases hg : goodO a b
    · exact ⟨_, Ev.now _, rfl⟩
    · have hT : (1 ≤ b ∧ b ≤ 10) ∧ (0 ≤ a ∧ a ≤ b) := by
        unfold goodO at hg
        rw [Bool.and_eq_true] at hg
        exact ⟨of_decide_eq_true hg.1, of_decide_eq_true hg.2⟩
      have s1 := num_size a.toNat (by omega)
      have s2 := num_size b.toNat (by omega)
      have n1 := num_ev a (by omega) (by omega)
      have n2 := num_ev b (by omega) (by omega)
      rw [itoa_eq a (by omega) (by omega), itoa_eq b (by omega) (by omega)]
      simp only [if_true, Option.bind_some]
      generalize (⟨(Lib.decDigits a.toNat).toArray⟩ : ByteArray) = x at s1 n1 ⊢
      generalize (⟨(Lib.decDigits b.toNat).toArray⟩ : ByteArray) = y at s2 n2 ⊢
      have c1 : x.size + 1 ≤ 9223372036854775807 := by omega
      have c2 : (x ++ (⟨#[47]⟩ : ByteArray)).size + y.size ≤ 9223372036854775807 := by
        rw [ByteArray.size_append]
        have : (⟨#[47]⟩ : ByteArray).size = 1 := rfl
        omega
      refine ⟨((x ++ (⟨#[47]⟩ : ByteArray)) ++ y, true), ?_, by rw [if_pos c1, if_pos c2]⟩
      unfold spec_chText.f
      refine Ev.bind (show Ev (fun k => (spec_l1Num.f k a).bind fun t112 => (if t112.size + 1 ≤ 9223372036854775807 then ((spec_l1Num.f k b).bind fun t113 => (if (t112 ++ (⟨#[47]⟩ : ByteArray)).size + t113.size ≤ 9223372036854775807 then (some ((t112 ++ (⟨#[47]⟩ : ByteArray)) ++ t113)) else (none))) else (none))) ((x ++ (⟨#[47]⟩ : ByteArray)) ++ y) from Ev.bind n1 ?_) (Ev.now _)
      simp only [if_pos c1]
      refine Ev.bind n2 ?_
      simp only [if_pos c2]
      exact Ev.now _
  obtain ⟨v, hv1, hv2⟩ := both
  refine Ev.bind hv1 ?_
  rw [hv2]
  simp only [Option.bind_some, bne_self_eq_false, Bool.false_eq_true, if_false, if_true]
  exact Ev.now _

end Go.Proofs.YtjidebaganmeoaaDoor.Pure
