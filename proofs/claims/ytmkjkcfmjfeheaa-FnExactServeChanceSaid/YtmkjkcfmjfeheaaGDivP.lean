/- Division of digits, as numbers: the plain side of impl.divideDigits. -/
import Derived.Test.YtmkjkcfmjfeheaaGPur
import Derived.Laws.BitsAllLaws
namespace Go.Proofs.Ytmkjkcfmjfeheaa.QFnExactMeanDeuce
open Go.RowKit Go.Proofs.YtmkjkcfmjfeheaaW.PrintWords Go.Proofs.YtmkjkcfmjfeheaaW.PrintLast Go.Proofs.YtmkjkcfmjfeheaaW.PrintMore
set_option linter.unusedVariables false
set_option linter.unusedSimpArgs false
theorem pow_mono {m n : Nat} (h : m ≤ n) : (2 : Int) ^ m ≤ 2 ^ n := by
  have h1 : (2 : Nat) ^ m ≤ 2 ^ n := Nat.pow_le_pow_right (by decide) h
  have h2 : ((2 ^ m : Nat) : Int) ≤ ((2 ^ n : Nat) : Int) := Int.ofNat_le.2 h1
  simpa using h2
theorem pow_lt {b P : Int} (hb : 0 < b) (h : b * 2 ^ P.toNat < 4294967296) : P ≤ 31 := by
  rcases Int.lt_or_le 31 P with h1 | h1
  · exfalso
    have h2 : (2 : Int) ^ 32 ≤ 2 ^ P.toNat := pow_mono (by omega)
    have h3 : (1 : Int) * 2 ^ P.toNat ≤ b * 2 ^ P.toNat := Int.mul_le_mul_of_nonneg_right (by omega) (Int.pow_nonneg (by decide))
    have h4 : (2 : Int) ^ 32 = 4294967296 := by decide
    omega
  · exact h1
theorem u32_of {x : Int} (h0 : 0 ≤ x) (h1 : x < 4294967296) : IntKind.u32.wrap x = x := by unfold IntKind.wrap; simp [IntKind.bits, IntKind.signed]; omega
theorem shl32 {b P sh : Int} (hb : 0 < b) (hs : sh = b * 2 ^ P.toNat) (h : b * 2 ^ P.toNat < 4294967296) (h0 : 0 ≤ P) (h1 : P ≤ 31) : IntKind.u32.wrap (b * 2 ^ min P.toNat 32) = sh := by
  rw [show min P.toNat 32 = P.toNat by omega, hs]
  exact u32_of (Int.mul_nonneg (by omega) (Int.pow_nonneg (by decide))) h
theorem pow_step {b P sh : Int} (hb : 0 < b) (h0 : 0 ≤ P) (hs : sh = b * 2 ^ P.toNat) (hc : sh < 2147483648) : b * 2 ^ (P + 1).toNat = 2 * sh ∧ b * 2 ^ (P + 1).toNat < 4294967296 := by
  have e : (P + 1).toNat = P.toNat + 1 := by omega
  rw [e, Int.pow_succ, ← Int.mul_assoc, ← hs]
  omega
/-- digits times S, carry c: the digits, and the one more -/
def dbD (S : Int) : List Int → Int → List Int
  | [], _ => []
  | x :: xs, c => ((c + x * S) % 4294967296) :: dbD S xs ((c + x * S) / 4294967296)
def dbT (S : Int) : List Int → Int → Int
  | [], c => c
  | x :: xs, c => dbT S xs ((c + x * S) / 4294967296)
theorem dbD_length (S : Int) : ∀ (xs : List Int) (c : Int), (dbD S xs c).length = xs.length
  | [], _ => rfl
  | x :: xs, c => by simp [dbD, dbD_length S xs]
theorem carry_lt {S x c : Int} (hS : 0 < S) (hx0 : 0 ≤ x) (hx : x < 4294967296) (hc0 : 0 ≤ c) (hc : c < S) : 0 ≤ c + x * S ∧ (c + x * S) / 4294967296 < S ∧ 0 ≤ (c + x * S) / 4294967296 ∧ 0 ≤ x * S ∧ x * S ≤ 4294967295 * S := by
  have h1 : 0 ≤ x * S := Int.mul_nonneg hx0 (by omega)
  have h2 : x * S ≤ 4294967295 * S := Int.mul_le_mul_of_nonneg_right (by omega) (by omega)
  omega
theorem dbT_lt (S : Int) (hS : 0 < S) : ∀ (xs : List Int) (c : Int), inR xs → 0 ≤ c → c < S → 0 ≤ dbT S xs c ∧ dbT S xs c < S
  | [], c, _, h0, h1 => ⟨h0, h1⟩
  | x :: xs, c, h, h0, h1 => by
    have hx := inR_cons h
    have hc := carry_lt hS hx.1.1 hx.1.2 h0 h1
    exact dbT_lt S hS xs _ hx.2 hc.2.2.1 hc.2.1
theorem dbD_inR (S : Int) : ∀ (xs : List Int) (c : Int), inR (dbD S xs c)
  | [], _ => inR_nil
  | x :: xs, c => inR_add (by omega) (by omega) (dbD_inR S xs _)
theorem db_vl (S : Int) : ∀ (xs : List Int) (c : Int), vl (dbD S xs c) + 4294967296 ^ xs.length * dbT S xs c = S * vl xs + c
  | [], c => by simp [dbD, dbT, vl]
  | x :: xs, c => by
    have ih := db_vl S xs ((c + x * S) / 4294967296)
    simp only [dbD, dbT, vl, List.length_cons]
    rw [Int.pow_succ]
    have e1 : (4294967296 ^ xs.length * 4294967296 : Int) * dbT S xs ((c + x * S) / 4294967296) = 4294967296 * (4294967296 ^ xs.length * dbT S xs ((c + x * S) / 4294967296)) := by
      rw [Int.mul_comm (4294967296 ^ xs.length) 4294967296, Int.mul_assoc]
    have e2 : S * (x + 4294967296 * vl xs) = x * S + 4294967296 * (S * vl xs) := by
      rw [Int.mul_add, Int.mul_comm S x, Int.mul_left_comm]
    rw [e1, e2]
    omega
/-- a sum that joins bits that are apart -/
theorem or_add {c y : Int} (p : Nat) (hp : p ≤ 32) (hc0 : 0 ≤ c) (hc : c < 2 ^ p) (hy0 : 0 ≤ y) (hy : y < 18446744073709551616) (hd : y % 2 ^ p = 0) : Go.bits .or .u64 c y = c + y ∧ Go.bits .or .u64 y c = y + c := by
  have hp2 : (2 : Int) ^ p ≤ 4294967296 := pow_mono (n := 32) hp
  obtain ⟨cn, rfl⟩ := Int.eq_ofNat_of_zero_le hc0
  obtain ⟨yn, rfl⟩ := Int.eq_ofNat_of_zero_le hy0
  have h1 : cn < 2 ^ p := by
    have : ((cn : Nat) : Int) < ((2 ^ p : Nat) : Int) := by simpa using hc
    omega
  have h2 : yn % 2 ^ p = 0 := by
    have : ((yn % 2 ^ p : Nat) : Int) = 0 := by simpa using hd
    omega
  have h3 := nat_join p yn cn h2 h1
  constructor
  · rw [u64_or_nat _ _ (by omega) (by omega), Nat.or_comm, h3]; simp [Int.add_comm]
  · rw [u64_or_nat _ _ (by omega) (by omega), h3]; simp
theorem mul_pow_mod (x : Int) (p : Nat) : (x * 2 ^ p) % 2 ^ p = 0 := Int.mul_emod_left x (2 ^ p)
theorem doubled_l0 (x0 : List Int) (P : Int) (hP : 0 ≤ P) (hP1 : P ≤ 31) (h0 : inR x0) (hl : x0.length ≤ 1000) : ∀ (d k : Nat) (dn : List Int) (c : Int), 0 ≤ c → c < 2 ^ P.toNat → dn.length + d = x0.length → d < k →
    impl_doubled.l0 k x0 P (dn ++ List.replicate (d + 1) 0) c x0 (x0.length : Int) (dn.length : Int) = some (dn ++ dbD (2 ^ P.toNat) (x0.drop dn.length) c ++ [dbT (2 ^ P.toNat) (x0.drop dn.length) c])
  | d, 0, _, _, _, _, _, hk => by omega
  | 0, k + 1, dn, c, hc0, hc, hd, hk => by
    have e : x0.drop dn.length = [] := List.drop_eq_nil_of_le (by omega)
    have i1 : ¬ (dn.length : Int) < (x0.length : Int) := by omega
    have i2 : 0 ≤ (x0.length : Int) := by omega
    have i3 : (x0.length : Int) < ((dn ++ List.replicate (0 + 1) (0 : Int)).length : Int) := by simp; omega
    have hp : (2 : Int) ^ P.toNat ≤ 2147483648 := pow_mono (n := 31) (by omega)
    have e2 : c % 4294967296 = c := by omega
    have e3 : x0.length = dn.length := by omega
    simp only [impl_doubled.l0]
    rw [if_neg i1, if_pos i2, if_pos i3, e, e2, Int.toNat_natCast, e3]
    simp [dbD, dbT]
  | d + 1, k + 1, dn, c, hc0, hc, hd, hk => by
    have hlt : dn.length < x0.length := by omega
    have hr := inR_rd h0 dn.length hlt
    have hg := drop_get x0 dn.length hlt
    have hp : (2 : Int) ^ P.toNat ≤ 2147483648 := pow_mono (n := 31) (by omega)
    have hS : (0 : Int) < 2 ^ P.toNat := Int.pow_pos (by decide)
    obtain ⟨x, hx⟩ : ∃ x, x = rd x0 (dn.length : Int) := ⟨_, rfl⟩
    rw [← hx] at hr hg
    have hc' := carry_lt hS hr.1 hr.2 hc0 hc
    have i1 : (dn.length : Int) < (x0.length : Int) := by omega
    have i2 : 0 ≤ (dn.length : Int) := by omega
    have i3 : (dn.length : Int) < ((dn ++ List.replicate (d + 1 + 1) (0 : Int)).length : Int) := by simp; omega
    have u1 : IntKind.u64.wrap x = x := u64_of hr.1 (by omega)
    have u2 : shl .u64 x P = x * 2 ^ P.toNat := by unfold shl; rw [show min P.toNat (IntKind.bits .u64) = P.toNat by simp [IntKind.bits]; omega]; exact u64_of hc'.2.2.2.1 (by omega)
    have u3 : Go.bits .or .u64 c (x * 2 ^ P.toNat) = c + x * 2 ^ P.toNat := (or_add P.toNat (by omega) hc0 hc hc'.2.2.2.1 (by omega) (mul_pow_mod x _)).1
    have hw : wrap64 ((dn.length : Int) + 1) = ((dn.length + 1 : Nat) : Int) := by rw [w64_of (by omega) (by omega)]; omega
    have hset : (dn ++ List.replicate (d + 1 + 1) (0 : Int)).set (dn.length : Int).toNat ((c + x * 2 ^ P.toNat) % 4294967296) = (dn ++ [(c + x * 2 ^ P.toNat) % 4294967296]) ++ List.replicate (d + 1) 0 := by
      rw [Int.toNat_natCast, List.set_append_right _ _ (Nat.le_refl _)]
      simp [List.replicate_succ]
    have ih := doubled_l0 x0 P hP hP1 h0 hl d k (dn ++ [(c + x * 2 ^ P.toNat) % 4294967296]) ((c + x * 2 ^ P.toNat) / 4294967296) hc'.2.2.1 hc'.2.1 (by simp; omega) (by omega)
    rw [show (dn ++ [(c + x * 2 ^ P.toNat) % 4294967296]).length = dn.length + 1 by simp] at ih
    simp only [impl_doubled.l0]
    rw [if_pos i1, if_pos i2, if_pos i1, if_pos hP, if_pos i3, ← hx, u1, u2, u3, hset, hw, ih, hg]
    simp [dbD, dbT]
theorem doubleD (x0 : List Int) (P : Int) (hP : 0 ≤ P) (hP1 : P ≤ 31) (h0 : inR x0) (hl : x0.length ≤ 1000) : impl_doubled.f 1001 x0 P = some (dbD (2 ^ P.toNat) x0 0 ++ [dbT (2 ^ P.toNat) x0 0]) := by
  have h := doubled_l0 x0 P hP hP1 h0 hl x0.length 1001 [] 0 (by decide) (Int.pow_pos (by decide)) (by simp) (by omega)
  have e : wrap64 ((x0.length : Int) + 1) = (x0.length : Int) + 1 := w64_of (by omega) (by omega)
  have e2 : ((x0.length : Int) + 1).toNat = x0.length + 1 := by omega
  unfold impl_doubled.f
  rw [e, if_pos (by omega), e2, if_pos (by omega)]
  simpa using h
/-- division by one digit, from the top down: the quotient's digits, the rest -/
def hzS (V : Int) : List Int → Int → Int
  | [], r => r
  | x :: xs, r => (hzS V xs r * 4294967296 + x) % V
def hzQ (V : Int) : List Int → Int → List Int
  | [], _ => []
  | x :: xs, r => (hzS V xs r * 4294967296 + x) / V :: hzQ V xs r
theorem hzQ_length (V : Int) : ∀ (xs : List Int) (r : Int), (hzQ V xs r).length = xs.length
  | [], _ => rfl
  | x :: xs, r => by simp [hzQ, hzQ_length V xs]
theorem hzS_bound (V : Int) (hV : 0 < V) : ∀ (xs : List Int) (r : Int), 0 ≤ r → r < V → 0 ≤ hzS V xs r ∧ hzS V xs r < V
  | [], r, h0, h1 => ⟨h0, h1⟩
  | x :: xs, r, h0, h1 => ⟨Int.emod_nonneg _ (by omega), Int.emod_lt_of_pos _ hV⟩
theorem quo_lt {V s x : Int} (hV : 0 < V) (h0 : 0 ≤ s) (h1 : s < V) (hx0 : 0 ≤ x) (hx : x < 4294967296) : 0 ≤ (s * 4294967296 + x) / V ∧ (s * 4294967296 + x) / V < 4294967296 := by
  refine ⟨Int.ediv_nonneg (by omega) (by omega), Int.ediv_lt_of_lt_mul hV ?_⟩
  rw [Int.mul_comm]
  omega
theorem hzQ_inR (V : Int) (hV : 0 < V) : ∀ (xs : List Int) (r : Int), inR xs → 0 ≤ r → r < V → inR (hzQ V xs r)
  | [], _, _, _, _ => inR_nil
  | x :: xs, r, h, h0, h1 => by
    have hx := inR_cons h
    have hb := hzS_bound V hV xs r h0 h1
    have hq := quo_lt hV hb.1 hb.2 hx.1.1 hx.1.2
    exact inR_add hq.1 hq.2 (hzQ_inR V hV xs r hx.2 h0 h1)
theorem hz_vl (V : Int) : ∀ (xs : List Int) (r : Int), vl xs + 4294967296 ^ xs.length * r = V * vl (hzQ V xs r) + hzS V xs r
  | [], r => by simp [hzQ, hzS, vl]
  | x :: xs, r => by
    have ih := hz_vl V xs r
    simp only [hzQ, hzS, vl, List.length_cons]
    rw [Int.pow_succ]
    have e1 : (4294967296 ^ xs.length * 4294967296 : Int) * r = 4294967296 * (4294967296 ^ xs.length * r) := by
      rw [Int.mul_comm (4294967296 ^ xs.length) 4294967296, Int.mul_assoc]
    have e2 : V * ((hzS V xs r * 4294967296 + x) / V + 4294967296 * vl (hzQ V xs r)) = V * ((hzS V xs r * 4294967296 + x) / V) + 4294967296 * (V * vl (hzQ V xs r)) := by
      rw [Int.mul_add, Int.mul_left_comm V 4294967296]
    have e3 := Int.mul_ediv_add_emod (hzS V xs r * 4294967296 + x) V
    rw [e1, e2]
    omega
theorem hzQ_drop (V : Int) : ∀ (i : Nat) (xs : List Int) (r : Int), (hzQ V xs r).drop i = hzQ V (xs.drop i) r
  | 0, xs, r => rfl
  | i + 1, [], r => by simp [hzQ]
  | i + 1, x :: xs, r => by simpa [hzQ] using hzQ_drop V i xs r
theorem hz_at (V : Int) (xs : List Int) (r : Int) (j : Nat) (h : j < xs.length) : rd (hzQ V xs r) (j : Int) = (hzS V (xs.drop (j + 1)) r * 4294967296 + rd xs (j : Int)) / V ∧
    hzS V (xs.drop j) r = (hzS V (xs.drop (j + 1)) r * 4294967296 + rd xs (j : Int)) % V := by
  have e := drop_get xs j h
  have e2 := drop_get (hzQ V xs r) j (by rw [hzQ_length]; exact h)
  rw [hzQ_drop, e] at e2
  constructor
  · exact (List.cons.inj e2).1.symm
  · rw [e]; rfl
/-- what the division of digits times S by b times S leaves -/
theorem div_scaled (N b S : Int) (hS : 0 < S) (hb : 0 < b) (Q R : Int) (h : S * N = (b * S) * Q + R) (h0 : 0 ≤ R) (h1 : R < b * S) : Q = N / b ∧ R = S * (N % b) := by
  have hV : 0 < b * S := Int.mul_pos hb hS
  have e1 : (S * N) / (b * S) = N / b := by rw [Int.mul_comm b S]; exact Int.mul_ediv_mul_of_pos _ _ hS
  have e2 : (S * N) % (b * S) = S * (N % b) := by rw [Int.mul_comm b S]; exact Int.mul_emod_mul_of_pos _ _ hS
  have hq : (S * N) / (b * S) = Q := by
    rw [h, Int.mul_comm (b * S) Q, Int.add_comm, Int.add_mul_ediv_right _ _ (by omega), Int.ediv_eq_zero_of_lt h0 h1, Int.zero_add]
  have hr : (S * N) % (b * S) = R := by
    rw [h, Int.mul_comm (b * S) Q, Int.add_comm, Int.add_mul_emod_self_right, Int.emod_eq_of_lt h0 h1]
  exact ⟨by rw [← hq, e1], by rw [← hr, e2]⟩
theorem and_mask {G : Int} (h0 : 0 ≤ G) (h1 : G < 18446744073709551616) : Go.bits .and .u64 G 4294967295 = G % 4294967296 := by
  obtain ⟨n, rfl⟩ := Int.eq_ofNat_of_zero_le h0
  have h := u64_and_nat n 4294967295 (by omega) (by decide)
  have h2 : n &&& 4294967295 = n % 4294967296 := Nat.and_two_pow_sub_one_eq_mod n 32
  rw [h2] at h
  simpa using h
/-- one step of the division by one digit -/
structure Step (T sh R x q r G L H : Int) : Prop where
  tq : T.tdiv sh = q
  tr : T.tmod sh = r
  q0 : 0 ≤ q ∧ q < 4294967296
  r0 : 0 ≤ r ∧ r < sh
  g : q * sh = G
  g0 : 0 ≤ G ∧ G ≤ T
  tg : T - G = r
  l : bits .and .u64 G 4294967295 = L
  h : G / 4294967296 = H
  le : G % 4294967296 = L
theorem step_of {T sh R x : Int} (hT : T = R * 4294967296 + x) (hs : 0 < sh) (hs1 : sh < 4294967296) (hR0 : 0 ≤ R) (hR1 : R < sh) (hx0 : 0 ≤ x) (hx1 : x < 4294967296) :
    ∃ q r G L H, Step T sh R x q r G L H ∧ q = T / sh ∧ r = T % sh := by
  have hT0 : 0 ≤ T := by omega
  have e := Int.mul_ediv_add_emod T sh
  have e1 : sh * (T / sh) = T / sh * sh := Int.mul_comm _ _
  have hr0 := Int.emod_nonneg T (show sh ≠ 0 by omega)
  have hr1 := Int.emod_lt_of_pos T hs
  have hq := quo_lt hs hR0 hR1 hx0 hx1
  rw [← hT] at hq
  have hg0 : 0 ≤ T / sh * sh := Int.mul_nonneg hq.1 (by omega)
  refine ⟨T / sh, T % sh, T / sh * sh, _, _, ⟨Int.tdiv_eq_ediv_of_nonneg hT0, Int.tmod_eq_emod_of_nonneg hT0, hq, ⟨hr0, hr1⟩, rfl, ⟨hg0, by omega⟩, by omega, rfl, rfl, (and_mask hg0 (by omega)).symm⟩, rfl, rfl⟩
end Go.Proofs.Ytmkjkcfmjfeheaa.QFnExactMeanDeuce
