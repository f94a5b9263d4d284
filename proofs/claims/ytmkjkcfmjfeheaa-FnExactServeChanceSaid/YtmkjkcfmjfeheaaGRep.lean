/- Fractions in lowest terms as parts of a whole: the plain side of mix and of ServeChance. -/
import Derived.Test.YtmkjkcfmjfeheaaGMD
namespace Go.Proofs.Ytmkjkcfmjfeheaa.QFnExactMeanDeuce
set_option linter.unusedVariables false
set_option linter.unusedSimpArgs false
/-- r is U parts of D, in lowest terms -/
structure Rep (r : Q2) (U D : Int) : Prop where
  n0 : 0 ≤ r.1
  eq : r.1 * D = U * (den r.2 : Int)
  cop : Nat.gcd r.1.natAbs (den r.2) = 1
  u0 : 0 ≤ U
  le : U ≤ D
  d0 : 0 < D
theorem den_pos (d : Nat) : 0 < den d := Nat.pos_of_ne_zero (den_ne d)
theorem Rep.den_le {r : Q2} {U D : Int} (h : Rep r U D) : (den r.2 : Int) ≤ D := by
  have e : r.1.natAbs * D.natAbs = U.natAbs * den r.2 := by
    have := congrArg Int.natAbs h.eq
    rwa [Int.natAbs_mul, Int.natAbs_mul, Int.natAbs_natCast] at this
  have hd : den r.2 ∣ r.1.natAbs * D.natAbs := ⟨U.natAbs, by rw [e, Nat.mul_comm]⟩
  have hc : Nat.Coprime (den r.2) r.1.natAbs := by rw [Nat.Coprime, Nat.gcd_comm]; exact h.cop
  have h2 := Nat.le_of_dvd (by have := h.d0; omega) (hc.dvd_of_dvd_mul_left hd)
  have := h.d0
  omega
theorem Rep.num_le {r : Q2} {U D : Int} (h : Rep r U D) : r.1 ≤ (den r.2 : Int) := by
  have h1 : U * (den r.2 : Int) ≤ D * (den r.2 : Int) := Int.mul_le_mul_of_nonneg_right h.le (by omega)
  rw [← h.eq, Int.mul_comm D] at h1
  exact Int.le_of_mul_le_mul_right h1 h.d0
theorem lowN_nn {N : Int} {M : Nat} (h : 0 ≤ N) : lowN N M = ((N.natAbs / gcdN N M : Nat) : Int) := by
  unfold lowN; rw [if_neg (by omega)]
theorem lowD_pos {N : Int} {M : Nat} (hM : M ≠ 0) : lowD N M ≠ 0 := by
  unfold lowD
  have hg := gcdN_pos N M hM
  have := Nat.div_pos (Nat.le_of_dvd (by omega) (Nat.gcd_dvd_right N.natAbs M)) hg
  exact Nat.ne_of_gt this
theorem low_rep {N U D : Int} {M : Nat} (hN : 0 ≤ N) (hM : M ≠ 0) (h : N * D = U * (M : Int)) (h0 : 0 ≤ U) (hle : U ≤ D) (hD : 0 < D) : Rep (lowN N M, lowD N M) U D := by
  have hg := gcdN_pos N M hM
  have hdp := lowD_pos (N := N) hM
  have hden : den (lowD N M) = lowD N M := by unfold den; rw [if_neg hdp]
  have e1 : (gcdN N M) * (N.natAbs / gcdN N M) = N.natAbs := Nat.mul_div_cancel' (Nat.gcd_dvd_left N.natAbs M)
  have e2 : (gcdN N M) * (lowD N M) = M := Nat.mul_div_cancel' (Nat.gcd_dvd_right N.natAbs M)
  have i1 : (gcdN N M : Int) * lowN N M = N := by rw [lowN_nn hN, ← Int.natCast_mul, e1]; omega
  have i2 : (gcdN N M : Int) * (lowD N M : Int) = M := by rw [← Int.natCast_mul, e2]
  refine ⟨?_, ?_, ?_, h0, hle, hD⟩
  · show 0 ≤ lowN N M
    rw [lowN_nn hN]; exact Int.natCast_nonneg _
  · show lowN N M * D = U * ((den (lowD N M) : Nat) : Int)
    rw [hden]
    rw [← i1, ← i2, Int.mul_assoc, Int.mul_left_comm U] at h
    exact Int.eq_of_mul_eq_mul_left (by omega) h
  · show Nat.gcd (lowN N M).natAbs (den (lowD N M)) = 1
    rw [hden, lowN_abs]
    exact Nat.gcd_div_gcd_div_gcd_of_pos_right (Nat.pos_of_ne_zero hM)
theorem Rep.new {n d : Int} (h0 : 0 ≤ n) (h1 : n ≤ d) (h2 : 0 < d) : Rep (rN n d) n d :=
  low_rep h0 (by omega) (by rw [Int.toNat_of_nonneg (by omega)]) h0 h1 h2
theorem mul4 (a b c d : Int) : a * b * (c * d) = a * c * (b * d) := by rw [Int.mul_assoc, Int.mul_left_comm b, ← Int.mul_assoc]
theorem den_mul_ne (a b : Nat) : den a * den b ≠ 0 := Nat.ne_of_gt (Nat.mul_pos (den_pos a) (den_pos b))
theorem Rep.mul {x y : Q2} {U D U' D' : Int} (hx : Rep x U D) (hy : Rep y U' D') : Rep (rM x y) (U * U') (D * D') := by
  refine low_rep (Int.mul_nonneg hx.n0 hy.n0) (den_mul_ne _ _) ?_ (Int.mul_nonneg hx.u0 hy.u0) ?_ (Int.mul_pos hx.d0 hy.d0)
  · rw [Int.natCast_mul, mul4, hx.eq, hy.eq, mul4]
  · have h1 : U * U' ≤ D * U' := Int.mul_le_mul_of_nonneg_right hx.le hy.u0
    have h2 : D * U' ≤ D * D' := Int.mul_le_mul_of_nonneg_left hy.le (Int.le_of_lt hx.d0)
    omega
theorem Rep.add {x y : Q2} {U D U' : Int} (hx : Rep x U D) (hy : Rep y U' D) (hle : U + U' ≤ D) : Rep (rA x y) (U + U') D := by
  have hxd : (0 : Int) ≤ (den x.2 : Int) := by omega
  have hyd : (0 : Int) ≤ (den y.2 : Int) := by omega
  refine low_rep (Int.add_nonneg (Int.mul_nonneg hx.n0 hyd) (Int.mul_nonneg hy.n0 hxd)) (den_mul_ne _ _) ?_ (Int.add_nonneg hx.u0 hy.u0) hle hx.d0
  rw [Int.natCast_mul, Int.add_mul, Int.add_mul]
  have e1 : x.1 * (den y.2 : Int) * D = U * ((den x.2 : Int) * (den y.2 : Int)) := by
    rw [Int.mul_right_comm, hx.eq, Int.mul_assoc]
  have e2 : y.1 * (den x.2 : Int) * D = U' * ((den x.2 : Int) * (den y.2 : Int)) := by
    rw [Int.mul_right_comm, hy.eq, Int.mul_assoc, Int.mul_comm (den y.2 : Int)]
  rw [e1, e2]
theorem rN_one : rN 1 1 = (1, 1) := by decide +kernel
theorem den_one : den 1 = 1 := by decide
theorem Rep.rest {p : Q2} {U D : Int} (hp : Rep p U D) : Rep (rS (rN 1 1) p) (D - U) D := by
  rw [rN_one]
  have hpd : (0 : Int) ≤ (den p.2 : Int) := by omega
  have hnl := hp.num_le
  have hD := hp.d0; have hU := hp.u0; have hL := hp.le
  refine low_rep ?_ (den_mul_ne _ _) ?_ (by omega) (by omega) hD
  · show 0 ≤ (1 : Int) * (den p.2 : Int) + -p.1 * ((den 1 : Nat) : Int)
    rw [den_one]
    simp
    omega
  · show ((1 : Int) * (den p.2 : Int) + -p.1 * ((den 1 : Nat) : Int)) * D = (D - U) * ((den 1 * den p.2 : Nat) : Int)
    rw [den_one, Nat.one_mul]
    simp only [Int.one_mul, Int.natCast_one, Int.mul_one]
    rw [Int.add_mul, Int.neg_mul, hp.eq, Int.sub_mul, Int.mul_comm D]
    omega
def mixV (p x y : Q2) : Q2 := rA (rM p x) (rM (rS (rN 1 1) p) y)
theorem Rep.mix {p x y : Q2} {u d U U' D : Int} (hp : Rep p u d) (hx : Rep x U D) (hy : Rep y U' D) : Rep (mixV p x y) (u * U + (d - u) * U') (d * D) := by
  refine (hp.mul hx).add (hp.rest.mul hy) ?_
  have h1 : u * U ≤ u * D := Int.mul_le_mul_of_nonneg_left hx.le hp.u0
  have h2 : (d - u) * U' ≤ (d - u) * D := Int.mul_le_mul_of_nonneg_left hy.le (by have := hp.le; omega)
  have e : u * D + (d - u) * D = d * D := by rw [← Int.add_mul]; congr 1; omega
  omega
end Go.Proofs.Ytmkjkcfmjfeheaa.QFnExactMeanDeuce
