/- What the printed functions over digits answer for numbers of one or two digits, as numbers. -/
import Derived.Test.YtmkjkcfmjfeheaaGInt
namespace Go.Proofs.Ytmkjkcfmjfeheaa.QFnExactMeanDeuce
open Go.RowKit Go.Proofs.YtmkjkcfmjfeheaaW.PrintWords Go.Proofs.YtmkjkcfmjfeheaaW.PrintLast Go.Proofs.YtmkjkcfmjfeheaaW.PrintMore
set_option linter.unusedVariables false
set_option linter.unusedSimpArgs false
theorem u64_of {x : Int} (h0 : 0 ≤ x) (h1 : x < 18446744073709551616) : IntKind.u64.wrap x = x := by unfold IntKind.wrap; simp [IntKind.bits, IntKind.signed]; omega
theorem w64_of {x : Int} (h0 : -9223372036854775808 ≤ x) (h1 : x < 9223372036854775808) : wrap64 x = x := by unfold wrap64; omega
theorem w64_0 : wrap64 0 = 0 := w64_of (by decide) (by decide)
theorem w64_1 : wrap64 1 = 1 := w64_of (by decide) (by decide)
theorem w64_2 : wrap64 2 = 2 := w64_of (by decide) (by decide)
theorem w64_3 : wrap64 3 = 3 := w64_of (by decide) (by decide)
theorem w64_4 : wrap64 4 = 4 := w64_of (by decide) (by decide)
theorem w64_m : wrap64 (-1) = -1 := w64_of (by decide) (by decide)
theorem u64_0 : IntKind.u64.wrap 0 = 0 := u64_of (by decide) (by decide)
theorem dig_one (n : Nat) (h : n ≠ 0) (h1 : n < 4294967296) : dig n = [(n : Int)] := by
  rw [dig_pos n h, Nat.mod_eq_of_lt h1, Nat.div_eq_of_lt h1, dig_zero]
theorem dig_two (n : Nat) (h : 4294967296 ≤ n) (h1 : n < 18446744073709551616) : dig n = [((n % 4294967296 : Nat) : Int), ((n / 4294967296 : Nat) : Int)] := by
  rw [dig_pos n (by omega), dig_one (n / 4294967296) (by omega) (by omega)]
theorem dig_cases (n : Nat) (h1 : n < 18446744073709551616) : dig n = [] ∧ n = 0 ∨ (∃ a : Int, dig n = [a] ∧ (n : Int) = a ∧ 0 < a ∧ a < 4294967296) ∨ ∃ a b : Int, dig n = [a, b] ∧ (n : Int) = a + 4294967296 * b ∧ 0 ≤ a ∧ a < 4294967296 ∧ 0 < b ∧ b < 4294967296 := by
  by_cases h : n = 0
  · exact .inl ⟨by rw [h, dig_zero], h⟩
  · by_cases h2 : n < 4294967296
    · exact .inr (.inl ⟨n, dig_one n h h2, rfl, by omega, by omega⟩)
    · exact .inr (.inr ⟨_, _, dig_two n (by omega) h1, by omega, by omega, by omega, by omega, by omega⟩)
theorem inR_one {a : Int} (h0 : 0 ≤ a) (h1 : a < 4294967296) : inR [a] := by
  intro d hd
  rcases List.mem_cons.1 hd with e | hd
  · omega
  · cases hd
theorem inR_add {a : Int} {ds : List Int} (h0 : 0 ≤ a) (h1 : a < 4294967296) (h : inR ds) : inR (a :: ds) := by
  intro d hd
  rcases List.mem_cons.1 hd with e | hd
  · omega
  · exact h d hd
theorem inR_nil : inR [] := by intro d hd; cases hd
theorem mul_one_digit (a b : Int) (ha : 0 < a) (ha1 : a < 4294967296) (hb : 0 < b) (hb1 : b < 4294967296) : impl_mulDigits.f 10 [a] [b] = some [(a * b) % 4294967296, (a * b) / 4294967296] := by
  have h0 : 0 < a * b := Int.mul_pos ha hb
  have h1 : a * b < 18446744073709551616 := by
    have h2 : a * b ≤ 4294967295 * b := Int.mul_le_mul_of_nonneg_right (by omega) (by omega)
    omega
  have u1 : IntKind.u64.wrap a = a := u64_of (by omega) (by omega)
  have u2 : IntKind.u64.wrap b = b := u64_of (by omega) (by omega)
  have u3 : IntKind.u64.wrap (a * b) = a * b := u64_of (by omega) (by omega)
  have m : (a * b / 4294967296) % 4294967296 = a * b / 4294967296 := by omega
  simp [impl_mulDigits.f, impl_mulDigits.l0, impl_mulDigits.l1, rd, w64_0, w64_1, w64_2, u64_0, u1, u2, u3, m]
theorem mulD (n m : Nat) (hn : n < 4294967296) (hm : m < 4294967296) : ∃ r, impl_mulDigits.f 10 (dig n) (dig m) = some r ∧ vl r = ((n * m : Nat) : Int) ∧ inR r := by
  rcases dig_cases n (by omega) with ⟨e, rfl⟩ | ⟨a, e, h1, h2, h3⟩ | ⟨a, b, e, h1, h2, h3, h4, h5⟩
  · rw [e]
    rcases dig_cases m (by omega) with ⟨e', rfl⟩ | ⟨a', e', h1', h2', h3'⟩ | ⟨a', b', e', h1', h2', h3', h4', h5'⟩
    · rw [e']; exact ⟨[], by simp [impl_mulDigits.f, impl_mulDigits.l0, w64_0], by decide, inR_nil⟩
    · rw [e']; refine ⟨[0], ?_, by simp [vl], inR_one (by decide) (by decide)⟩
      simp [impl_mulDigits.f, impl_mulDigits.l0, impl_mulDigits.l1, rd, w64_0, w64_1, w64_2]
    · omega
  · rw [e]
    rcases dig_cases m (by omega) with ⟨e', rfl⟩ | ⟨a', e', h1', h2', h3'⟩ | ⟨a', b', e', h1', h2', h3', h4', h5'⟩
    · rw [e']
      refine ⟨[0], ?_, by simp [vl], inR_one (by decide) (by decide)⟩
      simp [impl_mulDigits.f, impl_mulDigits.l0, impl_mulDigits.l1, rd, w64_0, w64_1, w64_2]
    · rw [e']
      refine ⟨_, mul_one_digit a a' h2 h3 h2' h3', ?_, ?_⟩
      · simp only [vl]
        rw [Int.natCast_mul, h1, h1']
        omega
      · have h0 : 0 < a * a' := Int.mul_pos h2 h2'
        have h4 : a * a' ≤ 4294967295 * a' := Int.mul_le_mul_of_nonneg_right (by omega) (by omega)
        exact inR_add (by omega) (by omega) (inR_one (by omega) (by omega))
    · omega
  · omega
/-- one step of addDigits, told by what is left -/
def addK : Nat → List Int → List Int → Int → List Int
  | 0, _, _, _ => []
  | k + 1, [], [], c => if c > 0 then (c % 4294967296) :: addK k [] [] (c / 4294967296) else []
  | k + 1, a :: xs, [], c => ((c + a) % 4294967296) :: addK k xs [] ((c + a) / 4294967296)
  | k + 1, [], b :: ys, c => ((c + b) % 4294967296) :: addK k [] ys ((c + b) / 4294967296)
  | k + 1, a :: xs, b :: ys, c => ((c + a + b) % 4294967296) :: addK k xs ys ((c + a + b) / 4294967296)
theorem rd_at (xs : List Int) (y : Int) (ys : List Int) : rd (xs ++ y :: ys) (xs.length : Int) = y := by simp [rd]
theorem vl_addK : ∀ (k : Nat) (xs ys : List Int) (c : Int), inR xs → inR ys → 0 ≤ c → c < 4294967296 → xs.length + ys.length + 2 ≤ k → vl (addK k xs ys c) = vl xs + vl ys + c ∧ inR (addK k xs ys c)
  | 0, _, _, _, _, _, _, _, h => by omega
  | k + 1, [], [], c, ha, hb, h0, h1, hk => by
    unfold addK
    by_cases h : c > 0
    · rw [if_pos h]
      have e : c / 4294967296 = 0 := by omega
      have e2 : addK k [] [] 0 = [] := by
        cases k with
        | zero => rfl
        | succ k => simp [addK]
      rw [e, e2]
      refine ⟨by simp only [vl]; omega, inR_one (by omega) (by omega)⟩
    · rw [if_neg h]
      exact ⟨by simp only [vl]; omega, inR_nil⟩
  | k + 1, a :: xs, [], c, ha, hb, h0, h1, hk => by
    have hl : xs.length + 3 ≤ k + 1 := by simp only [List.length_cons, List.length_nil] at hk; omega
    have h2 := inR_cons ha
    have h := vl_addK k xs [] ((c + a) / 4294967296) h2.2 inR_nil (by omega) (by omega) (by simp only [List.length_nil]; omega)
    unfold addK
    refine ⟨?_, inR_add (by omega) (by omega) h.2⟩
    simp only [vl] at h ⊢
    rw [h.1]
    omega
  | k + 1, [], b :: ys, c, ha, hb, h0, h1, hk => by
    have hl : ys.length + 3 ≤ k + 1 := by simp only [List.length_cons, List.length_nil] at hk; omega
    have h2 := inR_cons hb
    have h := vl_addK k [] ys ((c + b) / 4294967296) inR_nil h2.2 (by omega) (by omega) (by simp only [List.length_nil]; omega)
    unfold addK
    refine ⟨?_, inR_add (by omega) (by omega) h.2⟩
    simp only [vl] at h ⊢
    rw [h.1]
    omega
  | k + 1, a :: xs, b :: ys, c, ha, hb, h0, h1, hk => by
    have hl : xs.length + ys.length + 4 ≤ k + 1 := by simp only [List.length_cons] at hk; omega
    have h2 := inR_cons ha
    have h3 := inR_cons hb
    have h := vl_addK k xs ys ((c + a + b) / 4294967296) h2.2 h3.2 (by omega) (by omega) (by omega)
    unfold addK
    refine ⟨?_, inR_add (by omega) (by omega) h.2⟩
    simp only [vl] at h ⊢
    rw [h.1]
    omega
theorem drop_get (xs : List Int) (i : Nat) (h : i < xs.length) : xs.drop i = rd xs (i : Int) :: xs.drop (i + 1) := by
  rw [List.drop_eq_getElem_cons h]
  simp [rd, List.getElem?_eq_getElem h]
theorem inR_rd {xs : List Int} (h : inR xs) (i : Nat) (hi : i < xs.length) : 0 ≤ rd xs (i : Int) ∧ rd xs (i : Int) < 4294967296 := by
  have e := drop_get xs i hi
  have hm : rd xs (i : Int) ∈ xs := by
    have h1 : rd xs (i : Int) ∈ xs.drop i := by rw [e]; exact List.mem_cons_self
    exact List.mem_of_mem_drop h1
  exact h _ hm
theorem inR_drop {xs : List Int} (h : inR xs) (i : Nat) : inR (xs.drop i) := fun d hd => h d (List.mem_of_mem_drop hd)
theorem add_l0 (x0 x1 : List Int) (h0 : inR x0) (h1 : inR x1) (hl0 : x0.length ≤ 1000) (hl1 : x1.length ≤ 1000) : ∀ (m k : Nat) (out : List Int) (c : Int), 0 ≤ c → c < 4294967296 → out.length ≤ 2000 →
    (x0.length - out.length) + (x1.length - out.length) + 2 ≤ m → 2 * m ≤ k →
    impl_addDigits.l0 k x0 x1 out c (out.length : Int) = some (out ++ addK m (x0.drop out.length) (x1.drop out.length) c)
  | 0, _, _, _, _, _, _, h, _ => by omega
  | m + 1, k, out, c, hc0, hc1, ho, hm, hk => by
    obtain ⟨k, rfl⟩ : ∃ j, k = j + 2 := ⟨k - 2, by omega⟩
    have hw : wrap64 ((out.length : Int) + 1) = ((out.length + 1 : Nat) : Int) := by rw [w64_of (by omega) (by omega)]; omega
    have hcap : ∀ y : Int, (out ++ [y]).length = out.length + 1 := fun y => by simp
    have hle : out.length < 35184372088832 := by omega
    have hnn : 0 ≤ (out.length : Int) := by omega
    by_cases ha : out.length < x0.length
    · have ra := inR_rd h0 out.length ha
      have ea := drop_get x0 out.length ha
      have ia : (out.length : Int) < (x0.length : Int) := by omega
      have ua : IntKind.u64.wrap (rd x0 (out.length : Int)) = rd x0 (out.length : Int) := u64_of ra.1 (by omega)
      have ub : IntKind.u64.wrap (c + rd x0 (out.length : Int)) = c + rd x0 (out.length : Int) := u64_of (by omega) (by omega)
      by_cases hb : out.length < x1.length
      · have rb := inR_rd h1 out.length hb
        have eb := drop_get x1 out.length hb
        have ib : (out.length : Int) < (x1.length : Int) := by omega
        have uc : IntKind.u64.wrap (rd x1 (out.length : Int)) = rd x1 (out.length : Int) := u64_of rb.1 (by omega)
        have ud : IntKind.u64.wrap (c + rd x0 (out.length : Int) + rd x1 (out.length : Int)) = c + rd x0 (out.length : Int) + rd x1 (out.length : Int) := u64_of (by omega) (by omega)
        have ih := add_l0 x0 x1 h0 h1 hl0 hl1 m k (out ++ [(c + rd x0 (out.length : Int) + rd x1 (out.length : Int)) % 4294967296]) ((c + rd x0 (out.length : Int) + rd x1 (out.length : Int)) / 4294967296) (by omega) (by omega) (by rw [hcap]; omega) (by rw [hcap]; omega) (by omega)
        rw [hcap] at ih
        simp only [impl_addDigits.l0, impl_addDigits.j1]
        rw [if_pos ia, if_pos trivial, if_pos ia, if_pos hnn, if_pos ib, if_pos hle, ua, ub, uc, ud, hw, ih, ea, eb]
        simp [addK]
      · have eb : x1.drop out.length = [] := List.drop_eq_nil_of_le (by omega)
        have eb' : x1.drop (out.length + 1) = [] := List.drop_eq_nil_of_le (by omega)
        have ib : ¬ (out.length : Int) < (x1.length : Int) := by omega
        have ih := add_l0 x0 x1 h0 h1 hl0 hl1 m k (out ++ [(c + rd x0 (out.length : Int)) % 4294967296]) ((c + rd x0 (out.length : Int)) / 4294967296) (by omega) (by omega) (by rw [hcap]; omega) (by rw [hcap]; omega) (by omega)
        rw [hcap] at ih
        simp only [impl_addDigits.l0, impl_addDigits.j1]
        rw [if_pos ia, if_pos trivial, if_pos ia, if_pos hnn, if_neg ib, if_pos hle, ua, ub, hw, ih, ea, eb, eb']
        simp [addK]
    · have ea : x0.drop out.length = [] := List.drop_eq_nil_of_le (by omega)
      have ea' : x0.drop (out.length + 1) = [] := List.drop_eq_nil_of_le (by omega)
      have ia : ¬ (out.length : Int) < (x0.length : Int) := by omega
      by_cases hb : out.length < x1.length
      · have rb := inR_rd h1 out.length hb
        have eb := drop_get x1 out.length hb
        have ib : (out.length : Int) < (x1.length : Int) := by omega
        have uc : IntKind.u64.wrap (rd x1 (out.length : Int)) = rd x1 (out.length : Int) := u64_of rb.1 (by omega)
        have ud : IntKind.u64.wrap (c + rd x1 (out.length : Int)) = c + rd x1 (out.length : Int) := u64_of (by omega) (by omega)
        have ih := add_l0 x0 x1 h0 h1 hl0 hl1 m k (out ++ [(c + rd x1 (out.length : Int)) % 4294967296]) ((c + rd x1 (out.length : Int)) / 4294967296) (by omega) (by omega) (by rw [hcap]; omega) (by rw [hcap]; omega) (by omega)
        rw [hcap] at ih
        simp only [impl_addDigits.l0, impl_addDigits.j1]
        rw [if_neg ia, if_pos ib, if_pos trivial, if_neg ia, if_pos ib, if_pos hnn, if_pos hle, uc, ud, hw, ih, ea, eb, ea']
        simp [addK]
      · have eb : x1.drop out.length = [] := List.drop_eq_nil_of_le (by omega)
        have eb' : x1.drop (out.length + 1) = [] := List.drop_eq_nil_of_le (by omega)
        have ib : ¬ (out.length : Int) < (x1.length : Int) := by omega
        simp only [impl_addDigits.l0, impl_addDigits.j1]
        rw [if_neg ia, if_neg ib]
        by_cases hc : c > 0
        · have e0 : c / 4294967296 = 0 := by omega
          have hk0 : m ≠ 0 := by omega
          obtain ⟨m', rfl⟩ : ∃ j, m = j + 1 := ⟨m - 1, by omega⟩
          obtain ⟨k', rfl⟩ : ∃ j, k = j + 2 := ⟨k - 2, by omega⟩
          have i2 : ¬ ((out.length + 1 : Nat) : Int) < (x0.length : Int) := by omega
          have i3 : ¬ ((out.length + 1 : Nat) : Int) < (x1.length : Int) := by omega
          rw [decide_eq_true hc, if_pos rfl, if_neg ia, if_neg ib, if_pos hle, hw, e0]
          simp only [impl_addDigits.l0, impl_addDigits.j1]
          rw [if_neg i2, if_neg i3, ea, eb]
          simp [addK, hc, e0]
        · have hd : decide (c > 0) = false := decide_eq_false hc
          rw [hd, ea, eb]
          simp [addK, hc]
theorem addD (x y : List Int) (hx : inR x) (hy : inR y) (h0 : x.length ≤ 100) (h1 : y.length ≤ 100) : ∃ r, impl_addDigits.f 1000 x y = some r ∧ vl r = vl x + vl y ∧ inR r := by
  have h := add_l0 x y hx hy (by omega) (by omega) (x.length + y.length + 2) 1000 [] 0 (by decide) (by decide) (by simp) (by simp) (by omega)
  have h2 := vl_addK (x.length + y.length + 2) x y 0 hx hy (by decide) (by decide) (by omega)
  refine ⟨_, h, ?_, ?_⟩
  · simpa using h2.1
  · simpa using h2.2
theorem subD (a b : Int) (h0 : 0 < b) (h1 : b ≤ a) (h2 : a < 4294967296) : impl_subDigits.f 10 [a] [b] = some [a - b] := by
  have u1 : IntKind.u64.wrap a = a := u64_of (by omega) (by omega)
  have u2 : IntKind.u64.wrap b = b := u64_of (by omega) (by omega)
  have u3 : IntKind.u64.wrap (a - b) = a - b := u64_of (by omega) (by omega)
  have m : (a - b) % 4294967296 = a - b := by omega
  have l : ¬ a < b := by omega
  simp [impl_subDigits.f, impl_subDigits.l0, rd, w64_0, w64_1, w64_2, u64_0, u1, u2, u3, m, l]
theorem cmpD (a b : Int) (h1 : b ≤ a) : ∃ c, impl_compareDigits.f 10 [a] [b] = some c ∧ 0 ≤ c := by
  by_cases h : a = b
  · refine ⟨0, ?_, Int.le_refl _⟩
    simp [impl_compareDigits.f, impl_compareDigits.l0, rd, w64_0, w64_1, w64_m, h]
  · refine ⟨1, ?_, by decide⟩
    have l : ¬ a < b := by omega
    simp [impl_compareDigits.f, impl_compareDigits.l0, rd, w64_0, w64_1, w64_m, h, l]
theorem cmpD' (a b : Int) (h1 : a < b) : impl_compareDigits.f 10 [a] [b] = some (-1) := by
  have h : ¬ a = b := by omega
  simp [impl_compareDigits.f, impl_compareDigits.l0, rd, w64_0, w64_1, w64_m, h, h1]
theorem cmpN (a : Int) : impl_compareDigits.f 10 [a] [] = some 1 := by
  simp [impl_compareDigits.f, impl_compareDigits.l0, rd, w64_0, w64_1, w64_m, mx, mn]
end Go.Proofs.Ytmkjkcfmjfeheaa.QFnExactMeanDeuce
