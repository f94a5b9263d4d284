/- Two digits divided by two: the plain side. -/
import Derived.Test.YtmkjkcfmjfeheaaGDivP
namespace Go.Proofs.Ytmkjkcfmjfeheaa.QFnExactMeanDeuce
open Go.RowKit Go.Proofs.YtmkjkcfmjfeheaaW.PrintWords Go.Proofs.YtmkjkcfmjfeheaaW.PrintLast Go.Proofs.YtmkjkcfmjfeheaaW.PrintMore
set_option linter.unusedVariables false
set_option linter.unusedSimpArgs false
/-- what the last steps of the division are told by (a = q * v0, b = q * v1) -/
structure Fin22 (u0 u1 u2 v0 v1 q rest a b : Int) : Prop where
  u0b : 0 ≤ u0 ∧ u0 < 4294967296
  u1b : 0 ≤ u1 ∧ u1 < 4294967296
  u2b : 0 ≤ u2 ∧ u2 < v1
  v0b : 0 ≤ v0 ∧ v0 < 4294967296
  v1b : 0 < v1 ∧ v1 < 4294967296
  qb : 0 ≤ q ∧ q < 4294967296
  rb : 0 ≤ rest
  ea : q * v0 = a
  eb : q * v1 = b
  ab : 0 ≤ a ∧ a ≤ 18446744065119617025
  bb : 0 ≤ b
  t : b + rest = u2 * 4294967296 + u1
  ge : (u2 * 4294967296 + u1) * 4294967296 + u0 < b * 4294967296 + a + v1 * 4294967296 + v0
theorem Fin22.of {u0 u1 u2 v0 v1 q rest : Int} (h0 : 0 ≤ u0 ∧ u0 < 4294967296) (h1 : 0 ≤ u1 ∧ u1 < 4294967296) (h2 : 0 ≤ u2 ∧ u2 < v1) (h3 : 0 ≤ v0 ∧ v0 < 4294967296) (h4 : 0 < v1 ∧ v1 < 4294967296) (h5 : 0 ≤ q ∧ q < 4294967296) (h6 : 0 ≤ rest) (ht : q * v1 + rest = u2 * 4294967296 + u1)
    (hg : (u2 * 4294967296 + u1) * 4294967296 + u0 < q * v1 * 4294967296 + q * v0 + v1 * 4294967296 + v0) : Fin22 u0 u1 u2 v0 v1 q rest (q * v0) (q * v1) := by
  have m0 : 0 ≤ q * v0 := Int.mul_nonneg h5.1 h3.1
  have m1 : q * v0 ≤ 4294967295 * v0 := Int.mul_le_mul_of_nonneg_right (by omega) h3.1
  have m2 : 0 ≤ q * v1 := Int.mul_nonneg h5.1 (by omega)
  exact ⟨h0, h1, h2, h3, h4, h5, h6, rfl, rfl, ⟨m0, by omega⟩, m2, ht, hg⟩
/-- the first quotient is not too small -/
theorem first22 {u0 u1 u2 v0 v1 : Int} (h0 : 0 ≤ u0 ∧ u0 < 4294967296) (h1 : 0 ≤ u1 ∧ u1 < 4294967296) (h2 : 0 ≤ u2 ∧ u2 < v1) (h3 : 0 ≤ v0 ∧ v0 < 4294967296) (h4 : 0 < v1 ∧ v1 < 4294967296) (q rest : Int) (hq : q = (u2 * 4294967296 + u1) / v1) (hr : rest = (u2 * 4294967296 + u1) % v1) :
    Fin22 u0 u1 u2 v0 v1 q rest (q * v0) (q * v1) := by
  have e := Int.mul_ediv_add_emod (u2 * 4294967296 + u1) v1
  rw [← hq, ← hr] at e
  have e1 : v1 * q = q * v1 := Int.mul_comm _ _
  have hq2 := quo_lt h4.1 h2.1 h2.2 h1.1 h1.2
  rw [← hq] at hq2
  have hr0 := Int.emod_nonneg (u2 * 4294967296 + u1) (show v1 ≠ 0 by omega)
  have hr1 := Int.emod_lt_of_pos (u2 * 4294967296 + u1) h4.1
  rw [← hr] at hr0 hr1
  have m0 : 0 ≤ q * v0 := Int.mul_nonneg hq2.1 h3.1
  exact Fin22.of h0 h1 h2 h3 h4 hq2 hr0 (by omega) (by omega)
/-- a quotient too great is made less -/
theorem next22 {u0 u1 u2 v0 v1 q rest a b : Int} (h : Fin22 u0 u1 u2 v0 v1 q rest a b) (hc : rest * 4294967296 + u0 < a) : 0 < q ∧ Fin22 u0 u1 u2 v0 v1 (q - 1) (rest + v1) ((q - 1) * v0) ((q - 1) * v1) := by
  have hq : 0 < q := by
    rcases Int.lt_or_le 0 q with h1 | h1
    · exact h1
    · have h2 : q = 0 := by have := h.qb; omega
      have h3 := h.ea
      rw [h2, Int.zero_mul] at h3
      have := h.rb; have := h.u0b
      omega
  have e0 : (q - 1) * v0 = a - v0 := by rw [Int.sub_mul, h.ea, Int.one_mul]
  have e1 : (q - 1) * v1 = b - v1 := by rw [Int.sub_mul, h.eb, Int.one_mul]
  have h1 := h.t; have h2 := h.ge; have h3 := h.v1b; have h4 := h.qb; have h5 := h.rb
  refine ⟨hq, Fin22.of h.u0b h.u1b h.u2b h.v0b h.v1b (by omega) (by omega) (by rw [e1]; omega) ?_⟩
  rw [e0, e1]
  omega
/-- the end: the quotient, and the two digits of the rest -/
theorem last22 {u0 u1 u2 v0 v1 q rest a b : Int} (h : Fin22 u0 u1 u2 v0 v1 q rest a b) (hc : a ≤ rest * 4294967296 + u0) (k1 k2 r0 r1 : Int)
    (hk1 : k1 = a / 4294967296 + (if u0 < a % 4294967296 then 1 else 0)) (hr0 : r0 = (u0 - a % 4294967296) % 4294967296)
    (hk2 : k2 = (k1 + b) / 4294967296 + (if u1 < (k1 + b) % 4294967296 then 1 else 0)) (hr1 : r1 = (u1 - (k1 + b) % 4294967296) % 4294967296) :
    k2 = u2 ∧ (u2 * 4294967296 + u1) * 4294967296 + u0 = (v1 * 4294967296 + v0) * q + (r1 * 4294967296 + r0) ∧ 0 ≤ r1 * 4294967296 + r0 ∧ r1 * 4294967296 + r0 < v1 * 4294967296 + v0 ∧ 0 ≤ k1 ∧ k1 ≤ 4294967296 ∧ k1 + b < 18446744073709551616 := by
  have e : (v1 * 4294967296 + v0) * q = b * 4294967296 + a := by
    rw [Int.add_mul, Int.mul_comm v0 q, h.ea, Int.mul_assoc, Int.mul_comm 4294967296 q, ← Int.mul_assoc, Int.mul_comm v1 q, h.eb]
  have h1 := h.t; have h2 := h.ge; have h3 := h.v1b; have h4 := h.qb; have h5 := h.rb; have h6 := h.u0b; have h7 := h.u1b; have h8 := h.u2b; have h9 := h.v0b; have h10 := h.ab; have h11 := h.bb
  rw [e]
  split at hk1 <;> split at hk2 <;> refine ⟨?_, ?_, ?_, ?_, ?_, ?_, ?_⟩ <;> omega
/-- the shifted digits, as numbers -/
structure Num22 (a0 a1 b0 b1 S u0 u1 u2 v0 v1 : Int) : Prop where
  u0b : 0 ≤ u0 ∧ u0 < 4294967296
  u1b : 0 ≤ u1 ∧ u1 < 4294967296
  u2b : 0 ≤ u2 ∧ u2 < v1
  v0b : 0 ≤ v0 ∧ v0 < 4294967296
  v1b : 0 < v1 ∧ v1 < 4294967296
  sp : 0 < S
  eu : (u2 * 4294967296 + u1) * 4294967296 + u0 = S * (a0 + 4294967296 * a1)
  ev : v1 * 4294967296 + v0 = (b0 + 4294967296 * b1) * S
theorem num22 {a0 a1 b0 b1 S P u0 u1 u2 v0 v1 : Int} (hP : 0 ≤ P) (hP1 : P ≤ 31) (hS : S = 2 ^ P.toNat) (ha0 : 0 ≤ a0 ∧ a0 < 4294967296) (ha1 : 0 ≤ a1 ∧ a1 < 4294967296) (hb0 : 0 ≤ b0 ∧ b0 < 4294967296) (hb : 0 < b1) (hb1 : b1 < 4294967296) (hp : b1 * 2 ^ P.toNat < 4294967296)
    (hu0 : u0 = (0 + a0 * S) % 4294967296) (hu1 : u1 = ((0 + a0 * S) / 4294967296 + a1 * S) % 4294967296) (hu2 : u2 = ((0 + a0 * S) / 4294967296 + a1 * S) / 4294967296) (hv0 : v0 = (0 + b0 * S) % 4294967296) (hv1 : v1 = ((0 + b0 * S) / 4294967296 + b1 * S) % 4294967296) : Num22 a0 a1 b0 b1 S u0 u1 u2 v0 v1 := by
  have hS0 : 0 < S := by rw [hS]; exact Int.pow_pos (by decide)
  rw [← hS] at hp
  have c0 := carry_lt hS0 ha0.1 ha0.2 (Int.le_refl 0) hS0
  have c1 := carry_lt hS0 ha1.1 ha1.2 c0.2.2.1 c0.2.1
  have d0 := carry_lt hS0 hb0.1 hb0.2 (Int.le_refl 0) hS0
  have hdiv : (4294967296 : Int) % S = 0 := by
    rw [hS]
    have e : (4294967296 : Int) = 2 ^ (32 - P.toNat) * 2 ^ P.toNat := by
      rw [← Int.pow_add, show 32 - P.toNat + P.toNat = 32 by omega]; decide
    rw [e]
    exact Int.mul_emod_left _ _
  -- b1 * S is a multiple of S below 2^32, so at most 2^32 - S
  have hm : b1 * S ≤ 4294967296 - S := by
    obtain ⟨t, ht⟩ : ∃ t, (4294967296 : Int) = S * t := ⟨4294967296 / S, by have := Int.mul_ediv_add_emod (4294967296 : Int) S; omega⟩
    have h1 : b1 < t := by
      rcases Int.lt_or_le b1 t with h | h
      · exact h
      · have := Int.mul_le_mul_of_nonneg_right h (Int.le_of_lt hS0)
        rw [Int.mul_comm t S] at this
        omega
    have h2 : (b1 + 1) * S ≤ t * S := Int.mul_le_mul_of_nonneg_right (by omega) (Int.le_of_lt hS0)
    rw [Int.add_mul, Int.one_mul, Int.mul_comm t S] at h2
    omega
  have hb1S : S ≤ b1 * S := by
    have := Int.mul_le_mul_of_nonneg_right (show (1 : Int) ≤ b1 by omega) (Int.le_of_lt hS0)
    omega
  have e1 : S * (a0 + 4294967296 * a1) = a0 * S + 4294967296 * (a1 * S) := by rw [Int.mul_add, Int.mul_comm S a0, Int.mul_left_comm, Int.mul_comm S a1]
  have e2 : (b0 + 4294967296 * b1) * S = b0 * S + 4294967296 * (b1 * S) := by rw [Int.add_mul, Int.mul_assoc]
  refine ⟨by omega, by omega, by omega, by omega, by omega, hS0, ?_, ?_⟩
  · rw [e1]; omega
  · rw [e2]; omega
end Go.Proofs.Ytmkjkcfmjfeheaa.QFnExactMeanDeuce
