/- What the printed functions of FnExactServeChance compute answers true, at every argument of its types. No condition beside the types' own bounds. -/
import Derived.Test.YtmkjkcfmjfeheaaQFnExactServeChancex
import Derived.Test.YtmkjkcfmjfeheaaGSC
namespace Go.Proofs.Ytmkjkcfmjfeheaa.Pure
open Go.RowKit Go.Proofs.Ytmkjkcfmjfeheaa.QFnExactMeanDeuce Go.Proofs.YtmkjkcfmjfeheaaW.PrintWords Go.Proofs.YtmkjkcfmjfeheaaW.PrintLast

set_option linter.unusedVariables false
set_option linter.unusedSimpArgs false
theorem power_l0 (a : Int) (ha : 0 ≤ a) : ∀ (n k : Nat) (acc : Int), 0 ≤ acc → acc * a ^ n ≤ 1000000000000000 → (∀ i, i ≤ n → acc * a ^ i ≤ 1000000000000000) → n ≤ 100 → n < k → spec_chPower.l0 k a (n : Int) acc = some (acc * a ^ n)
  | 0, 0, _, _, _, _, _, h => by omega
  | 0, k + 1, acc, _, _, _, _, _ => by
    simp only [spec_chPower.l0]
    rw [if_neg (by decide)]
    simp
  | n + 1, 0, _, _, _, _, _, h => by omega
  | n + 1, k + 1, acc, h0, h1, h2, hn, hk => by
    have e1 := h2 1 (by omega)
    rw [Int.pow_succ, Int.pow_zero, Int.one_mul] at e1
    have e2 : 0 ≤ acc * a := Int.mul_nonneg h0 ha
    have w1 : wrap64 (acc * a) = acc * a := w64_of (by omega) (by omega)
    have w2 : wrap64 (((n + 1 : Nat) : Int) - 1) = (n : Int) := by rw [w64_of (by omega) (by omega)]; omega
    have st : ∀ i, acc * a * a ^ i = acc * a ^ (i + 1) := fun i => by rw [Int.pow_succ, Int.mul_assoc, Int.mul_comm a]
    have ih := power_l0 a ha n k (acc * a) e2 (by rw [st]; exact h1) (fun i hi => by rw [st]; exact h2 (i + 1) (by omega)) (by omega) (by omega)
    simp only [spec_chPower.l0]
    rw [if_pos (by omega), w1, w2, ih, st]
theorem power_is (a : Int) (ha : 0 ≤ a) (ha1 : a ≤ 100) (n k : Nat) (hn : n ≤ 7) (hk : n < k) : spec_chPower.f k a (n : Int) = some (a ^ n) := by
  have hb : ∀ i, i ≤ 7 → (1 : Int) * a ^ i ≤ 1000000000000000 := by
    intro i hi
    obtain ⟨m, rfl⟩ := Int.eq_ofNat_of_zero_le ha
    have h1 : m ^ i ≤ 100 ^ i := Nat.pow_le_pow_left (by omega) i
    have h2 : 100 ^ i ≤ 100 ^ 7 := Nat.pow_le_pow_right (by decide) hi
    have h3 : ((m ^ i : Nat) : Int) ≤ ((100 ^ 7 : Nat) : Int) := Int.ofNat_le.2 (Nat.le_trans h1 h2)
    have h4 : ((m ^ i : Nat) : Int) = (m : Int) ^ i := by simp
    have h5 : ((100 ^ 7 : Nat) : Int) = 100000000000000 := by decide
    omega
  unfold spec_chPower.f
  rw [power_l0 a ha n k 1 (by decide) (hb n hn) (fun i hi => hb i (by omega)) (by omega) hk, Int.one_mul]
theorem low_l0 (x0 x1 : Int) (g : Nat) (hx0 : 0 ≤ x0) (hx1 : 0 ≤ x1) (hb0 : x0 ≤ 1000000000000000) (hb1 : x1 ≤ 1000000000000000) : ∀ (m a k : Nat), m < k → Nat.gcd a m = g → 0 < g →
    spec_chLow.l0 k x0 x1 (a : Int) (m : Int) = some (x0 / (g : Int), x1 / (g : Int)) := by
  intro m
  induction m using Nat.strongRecOn with
  | _ m ih =>
    intro a k hk hg hp
    obtain ⟨k, rfl⟩ : ∃ j, k = j + 1 := ⟨k - 1, by omega⟩
    simp only [spec_chLow.l0]
    by_cases h : m = 0
    · subst h
      rw [Nat.gcd_zero_right] at hg
      subst hg
      have e0 : 0 ≤ x0 / (a : Int) := Int.ediv_nonneg hx0 (by omega)
      have e1 : x0 / (a : Int) ≤ x0 := Int.ediv_le_self _ hx0
      have e2 : 0 ≤ x1 / (a : Int) := Int.ediv_nonneg hx1 (by omega)
      have e3 : x1 / (a : Int) ≤ x1 := Int.ediv_le_self _ hx1
      rw [if_neg (by decide), if_neg (by omega), Int.tdiv_eq_ediv_of_nonneg hx0, Int.tdiv_eq_ediv_of_nonneg hx1, w64_of (by omega) (by omega), w64_of (by omega) (by omega)]
    · have hm : a % m < m := Nat.mod_lt _ (Nat.pos_of_ne_zero h)
      have e : Int.tmod (a : Int) (m : Int) = ((a % m : Nat) : Int) := rfl
      rw [if_pos (by omega), if_neg (by omega), e]
      exact ih (a % m) hm m k (by omega) (by rw [← hg, Nat.gcd_comm a m, Nat.gcd_rec m a, Nat.gcd_comm]) hp
theorem low_is (x0 x1 : Int) (hx0 : 0 ≤ x0) (hx1 : 0 < x1) (hb0 : x0 ≤ 1000000000000000) (hb1 : x1 ≤ 1000000000000000) (k : Nat) (hk : x1.toNat < k) : spec_chLow.f k x0 x1 = some (lowN x0 x1.toNat, (lowD x0 x1.toNat : Int)) := by
  obtain ⟨a, rfl⟩ := Int.eq_ofNat_of_zero_le hx0
  obtain ⟨m, rfl⟩ := Int.eq_ofNat_of_zero_le (Int.le_of_lt hx1)
  rw [Int.toNat_natCast] at *
  unfold spec_chLow.f
  rw [low_l0 _ _ (Nat.gcd a m) hx0 (Int.le_of_lt hx1) hb0 hb1 m a k hk rfl (Nat.gcd_pos_of_pos_right _ (by omega)), lowN_nn hx0]
  rfl
/-- fractions in lowest terms are told by their parts -/
theorem Rep_unique {r r' : Q2} {U D : Int} (h : Rep r U D) (h' : Rep r' U D) (hd : r.2 ≠ 0) (hd' : r'.2 ≠ 0) : r = r' := by
  have e : den r.2 = r.2 := by unfold den; rw [if_neg hd]
  have e' : den r'.2 = r'.2 := by unfold den; rw [if_neg hd']
  have h1 := h.eq
  have h2 := h'.eq
  have c1 := h.cop
  have c2 := h'.cop
  rw [e] at h1 c1
  rw [e'] at h2 c2
  obtain ⟨n, hn⟩ := Int.eq_ofNat_of_zero_le h.n0
  obtain ⟨n', hn'⟩ := Int.eq_ofNat_of_zero_le h'.n0
  have hx : r.1 * (r'.2 : Int) = r'.1 * (r.2 : Int) := by
    have a1 : r.1 * (r'.2 : Int) * D = r'.1 * (r.2 : Int) * D := by
      rw [Int.mul_right_comm, h1, Int.mul_right_comm r'.1, h2, Int.mul_right_comm]
    exact Int.eq_of_mul_eq_mul_right (by have := h.d0; omega) a1
  rw [hn] at hx c1
  rw [hn'] at hx c2
  have hx2 : n * r'.2 = n' * r.2 := by exact_mod_cast hx
  rw [Int.natAbs_natCast] at c1 c2
  have d1 : r.2 ∣ r'.2 := by
    have : r.2 ∣ n * r'.2 := ⟨n', by rw [hx2, Nat.mul_comm]⟩
    exact (Nat.Coprime.symm c1).dvd_of_dvd_mul_left this
  have d2 : r'.2 ∣ r.2 := by
    have : r'.2 ∣ n' * r.2 := ⟨n, by rw [← hx2, Nat.mul_comm]⟩
    exact (Nat.Coprime.symm c2).dvd_of_dvd_mul_left this
  have e2 : r.2 = r'.2 := Nat.dvd_antisymm d1 d2
  have e1 : n = n' := by
    rw [← e2] at hx2
    exact Nat.eq_of_mul_eq_mul_right (Nat.pos_of_ne_zero hd) hx2
  exact Prod.ext (by rw [hn, hn', e1]) e2
/-- the other side's denominator -/
theorem all_prod {od td : Int} (t : Nat) : svN od td t * svN td od t = od * td := by
  unfold svN
  split
  · exact Int.mul_comm _ _
  · rfl
theorem prod_all (od td : Int) : ∀ (L t : Nat), prodD (svN od td) t L * prodD (svN td od) t L = (od * td) ^ L
  | 0, t => by show (1 : Int) * 1 = _; simp
  | L + 1, t => by
    show svN od td t * prodD (svN od td) (t + 1) L * (svN td od t * prodD (svN td od) (t + 1) L) = (od * td) ^ (L + 1)
    rw [mul4, all_prod, prod_all od td L (t + 1), Int.pow_succ, Int.mul_comm]
theorem pow_all {A : Int} (h0 : 0 ≤ A) (h1 : A ≤ 100) (L : Nat) (hL : L ≤ 7) : 0 ≤ A ^ L ∧ A ^ L ≤ 100000000000000 := by
  obtain ⟨m, rfl⟩ := Int.eq_ofNat_of_zero_le h0
  have h2 : m ^ L ≤ 100 ^ L := Nat.pow_le_pow_left (by omega) L
  have h3 : 100 ^ L ≤ 100 ^ 7 := Nat.pow_le_pow_right (by decide) hL
  have h4 : ((m ^ L : Nat) : Int) ≤ ((100 ^ 7 : Nat) : Int) := Int.ofNat_le.2 (Nat.le_trans h2 h3)
  have h5 : ((m ^ L : Nat) : Int) = (m : Int) ^ L := by simp
  have h6 : ((100 ^ 7 : Nat) : Int) = 100000000000000 := by decide
  omega
theorem tmod_two (n : Nat) : Int.tmod (n : Int) 2 = ((n % 2 : Nat) : Int) := by rw [Int.tmod_eq_emod_of_nonneg (by omega)]; omega
theorem serve_is (on od tn td : Int) (h : okOdds on od) (h' : okOdds tn td) (nn : Nat) (hnn : nn ≤ 4) : ∀ (L a b k : Nat), a ≤ nn → b ≤ nn → a + b + L + 1 = 2 * nn → 2 * L + 20 ≤ k →
    spec_chServe.f k on od tn td (nn : Int) (a : Int) (b : Int) (L : Int) = some (fromU (svN on tn) (svN od td) nn L a b * prodD (svN td od) (a + b) L) := by
  have hA : 0 ≤ od * td ∧ od * td ≤ 100 := by
    have h1 : od * td ≤ 10 * td := Int.mul_le_mul_of_nonneg_right h.2.1 (by have := h'.1; omega)
    have h2 : 0 ≤ od * td := Int.mul_nonneg (by have := h.1; omega) (by have := h'.1; omega)
    have := h'.2.1
    omega
  have hwA := Aside0.mk (show wrap64 (od * td) = od * td from w64_of (by omega) (by omega))
  have hS := srv_of h h'
  have hS' : ∀ t, 0 < svN td od t := fun t => by unfold svN; split <;> (have := h.1; have := h'.1; omega)
  have hpE : ∀ L t, 0 < prodD (svN td od) t L := by
    intro L
    induction L with
    | zero => intro t; show (0 : Int) < 1; decide
    | succ L ih => intro t; exact Int.mul_pos (hS' t) (ih (t + 1))
  intro L
  induction L with
  | zero =>
    intro a b k ha hb hs hk
    obtain ⟨k, rfl⟩ : ∃ j, k = j + 2 := ⟨k - 2, by omega⟩
    simp only [spec_chServe.f, spec_chServe.j0]
    by_cases e : a = nn
    · have hp := power_is (od * td) hA.1 hA.2 0 k (by decide) (by omega)
      rw [if_pos (by omega), if_pos trivial, if_pos (by omega), hwA.out]
      rw [show ((0 : Nat) : Int) = 0 from rfl] at hp ⊢
      rw [hp]
      unfold fromU
      rw [if_pos e]
      show some ((od * td) ^ 0) = some (1 * 1)
      rw [Int.pow_zero]
      rfl
    · have e2 : b = nn := by omega
      have hbb : (((b : Int) == (nn : Int)) = true) := by rw [e2]; simp
      rw [if_neg (by omega), if_pos hbb, if_neg (by omega)]
      unfold fromU
      rw [if_neg e, Int.zero_mul]
  | succ L ih =>
    intro a b k ha hb hs hk
    obtain ⟨k, rfl⟩ : ∃ j, k = j + 2 := ⟨k - 2, by omega⟩
    simp only [spec_chServe.f, spec_chServe.j0]
    by_cases e : a = nn
    · have hp := power_is (od * td) hA.1 hA.2 (L + 1) k (by omega) (by omega)
      rw [if_pos (by omega), if_pos trivial, if_pos (by omega), hwA.out, hp]
      unfold fromU
      rw [if_pos e, prod_all]
      rfl
    · by_cases e2 : b = nn
      · have hbb : (((b : Int) == (nn : Int)) = true) := by rw [e2]; simp
        rw [if_neg (by omega), if_pos hbb, if_neg (by omega)]
        unfold fromU
        rw [if_neg e, if_pos e2, Int.zero_mul]
      · have hbb : ¬ (((b : Int) == (nn : Int)) = true) := by rw [beq_iff_eq]; omega
        have wa := Aside0.mk (show wrap64 ((a : Int) + 1) = ((a + 1 : Nat) : Int) by rw [w64_of (by omega) (by omega)]; omega)
        have wb := Aside0.mk (show wrap64 ((b : Int) + 1) = ((b + 1 : Nat) : Int) by rw [w64_of (by omega) (by omega)]; omega)
        have wL := Aside0.mk (show wrap64 (((L + 1 : Nat) : Int) - 1) = (L : Int) by rw [w64_of (by omega) (by omega)]; omega)
        have wab := Aside0.mk (show wrap64 ((a : Int) + (b : Int)) = ((a + b : Nat) : Int) by rw [w64_of (by omega) (by omega)]; omega)
        have tm := tmod_two (a + b)
        have h1 := ih (a + 1) b k (by omega) hb (by omega) (by omega)
        have h2 := ih a (b + 1) k ha (by omega) (by omega) (by omega)
        rw [show a + 1 + b = a + b + 1 by omega] at h1
        rw [show a + (b + 1) = a + b + 1 by omega] at h2
        -- bounds
        have r1 := fromRep hS nn L (a + 1) b (by omega) hb (by omega)
        have r2 := fromRep hS nn L a (b + 1) ha (by omega) (by omega)
        rw [show a + 1 + b = a + b + 1 by omega] at r1
        rw [show a + (b + 1) = a + b + 1 by omega] at r2
        obtain ⟨U1, hU1⟩ : ∃ U1, Aside0 (U1 = fromU (svN on tn) (svN od td) nn L (a + 1) b) := ⟨_, ⟨rfl⟩⟩
        obtain ⟨U2, hU2⟩ : ∃ U2, Aside0 (U2 = fromU (svN on tn) (svN od td) nn L a (b + 1)) := ⟨_, ⟨rfl⟩⟩
        obtain ⟨E, hE⟩ : ∃ E, Aside0 (E = prodD (svN td od) (a + b + 1) L) := ⟨_, ⟨rfl⟩⟩
        obtain ⟨D, hD⟩ : ∃ D, Aside0 (D = prodD (svN od td) (a + b + 1) L) := ⟨_, ⟨rfl⟩⟩
        have hE0 : 0 < E := by rw [hE.out]; exact hpE L _
        have hDE : D * E = (od * td) ^ L := by rw [hD.out, hE.out]; exact prod_all od td L _
        have pb := pow_all hA.1 hA.2 L (by omega)
        have pb2 := pow_all hA.1 hA.2 (L + 1) (by omega)
        have b1 : 0 ≤ U1 * E ∧ U1 * E ≤ (od * td) ^ L := by
          rw [← hDE, hU1.out]
          exact ⟨Int.mul_nonneg r1.u0 (Int.le_of_lt hE0), Int.mul_le_mul_of_nonneg_right (by rw [hD.out]; exact r1.le) (Int.le_of_lt hE0)⟩
        have b2 : 0 ≤ U2 * E ∧ U2 * E ≤ (od * td) ^ L := by
          rw [← hDE, hU2.out]
          exact ⟨Int.mul_nonneg r2.u0 (Int.le_of_lt hE0), Int.mul_le_mul_of_nonneg_right (by rw [hD.out]; exact r2.le) (Int.le_of_lt hE0)⟩
        have key : ∀ num : Int, num = svN on tn (a + b) * svN td od (a + b) → wrap64 (wrap64 (wrap64 num * (U1 * E)) + wrap64 (wrap64 (od * td - wrap64 num) * (U2 * E))) = fromU (svN on tn) (svN od td) nn (L + 1) a b * prodD (svN td od) (a + b) (L + 1) := by
          intro num hnum
          have hal := all_prod (od := od) (td := td) (a + b)
          have n0 : 0 ≤ num := by rw [hnum]; exact Int.mul_nonneg (hS.n0 _) (Int.le_of_lt (hS' _))
          have n1 : num ≤ od * td := by rw [hnum, ← hal]; exact Int.mul_le_mul_of_nonneg_right (hS.n1 _) (Int.le_of_lt (hS' _))
          have w1 := Aside0.mk (show wrap64 num = num from w64_of (by omega) (by omega))
          have w2 := Aside0.mk (show wrap64 (od * td - num) = od * td - num from w64_of (by omega) (by omega))
          have m1 : 0 ≤ num * (U1 * E) := Int.mul_nonneg n0 b1.1
          have m2 : num * (U1 * E) ≤ num * (od * td) ^ L := Int.mul_le_mul_of_nonneg_left b1.2 n0
          have m3 : 0 ≤ (od * td - num) * (U2 * E) := Int.mul_nonneg (by omega) b2.1
          have m4 : (od * td - num) * (U2 * E) ≤ (od * td - num) * (od * td) ^ L := Int.mul_le_mul_of_nonneg_left b2.2 (by omega)
          have m5 : num * (od * td) ^ L + (od * td - num) * (od * td) ^ L = (od * td) ^ (L + 1) := by
            rw [← Int.add_mul, Int.pow_succ, Int.mul_comm ((od * td) ^ L)]
            congr 1
            omega
          rw [w1.out, w2.out, w64_of (x := num * (U1 * E)) (by omega) (by omega), w64_of (x := (od * td - num) * (U2 * E)) (by omega) (by omega), w64_of (by omega) (by omega)]
          unfold fromU
          rw [if_neg e, if_neg e2, ← hU1.out, ← hU2.out]
          show _ = _ * (svN td od (a + b) * prodD (svN td od) (a + b + 1) L)
          rw [← hE.out, hnum, ← hal, ← Int.sub_mul, Int.add_mul, mul4, mul4]
          congr 1
          rw [mul4]
        rw [if_neg (by omega), if_neg hbb, wab.out, tm, wa.out, wb.out, wL.out, hwA.out]
        by_cases hpar : (a + b) % 2 = 1
        · rw [if_pos (by omega), h1, h2]
          simp only [Option.bind_some, Option.some.injEq]
          rw [← hU1.out, ← hU2.out, ← hE.out]
          exact key (tn * od) (by unfold svN; rw [if_pos hpar, if_pos hpar])
        · rw [if_neg (by omega), h1, h2]
          simp only [Option.bind_some, Option.some.injEq]
          rw [← hU1.out, ← hU2.out, ← hE.out]
          exact key (on * td) (by unfold svN; rw [if_neg hpar, if_neg hpar])
theorem chGood_val (a b : Int) : spec_chGood.f a b = some (decide (okOdds a b)) := by
  unfold spec_chGood.f spec_l1In.f
  by_cases h1 : b ≥ 1
  · rw [if_pos h1]
    by_cases h2 : b ≤ 10
    · rw [decide_eq_true h2]
      by_cases h3 : a ≥ 0
      · rw [if_pos h3]
        by_cases h4 : a ≤ b
        · rw [decide_eq_true h4, decide_eq_true (show okOdds a b from ⟨h1, h2, h3, h4⟩)]; rfl
        · rw [decide_eq_false h4, decide_eq_false (show ¬ okOdds a b from fun h => h4 h.2.2.2)]; rfl
      · rw [if_neg h3, decide_eq_false (show ¬ okOdds a b from fun h => h3 h.2.2.1)]; rfl
    · rw [decide_eq_false h2, decide_eq_false (show ¬ okOdds a b from fun h => h2 h.2.1)]; rfl
  · rw [if_neg h1, decide_eq_false (show ¬ okOdds a b from fun h => h1 h.1)]; rfl
theorem l1In_val (a : Int) : spec_l1In.f a 1 4 = some (decide (1 ≤ a ∧ a ≤ 4)) := by
  unfold spec_l1In.f
  by_cases h1 : a ≥ 1
  · rw [if_pos h1]
    by_cases h2 : a ≤ 4
    · rw [decide_eq_true h2, decide_eq_true ⟨h1, h2⟩]
    · rw [decide_eq_false h2, decide_eq_false (fun h => h2 h.2)]
  · rw [if_neg h1, decide_eq_false (fun h => h1 h.1)]
theorem spec_is (a b c d e : Int) : ∃ k, spec_ServeChance.f k a b c d e = impl_ServeChance.f a b c d e := by
  unfold impl_ServeChance.f
  by_cases g0 : okOdds a b
  · by_cases g1 : okOdds c d
    · by_cases g2 : 1 ≤ e ∧ e ≤ 4
      · obtain ⟨nn, rfl⟩ := Int.eq_ofNat_of_zero_le (show 0 ≤ e by omega)
        have hnn : 1 ≤ nn ∧ nn ≤ 4 := by omega
        obtain ⟨L, hL⟩ : ∃ L : Nat, L + 1 = 2 * nn := ⟨2 * nn - 1, by omega⟩
        have hL7 : L ≤ 7 := by omega
        have hw1 : wrap64 (2 * (nn : Int)) = 2 * (nn : Int) := w64_of (by omega) (by omega)
        have hw2 : wrap64 (2 * (nn : Int) - 1) = (L : Int) := by rw [w64_of (by omega) (by omega)]; omega
        have HW1 := Aside0.mk hw1
        have HW2 := Aside0.mk hw2
        clear hw1 hw2
        have hA : 0 ≤ b * d ∧ b * d ≤ 100 ∧ 0 < b * d := by
          have h1 : b * d ≤ 10 * d := Int.mul_le_mul_of_nonneg_right g0.2.1 (by have := g1.1; omega)
          have h2 : 0 < b * d := Int.mul_pos (by have := g0.1; omega) (by have := g1.1; omega)
          have := g1.2.1
          omega
        have HWA := Aside0.mk (show wrap64 (b * d) = b * d from w64_of (by omega) (by omega))
        have hS := srv_of g0 g1
        obtain ⟨M, hM⟩ : ∃ M, M = (b * d) ^ L := ⟨_, rfl⟩
        have hM0 : 0 < M := by rw [hM]; exact Int.pow_pos hA.2.2
        have hMb := pow_all hA.1 hA.2.1 L hL7
        rw [← hM] at hMb
        have hr := fromRep hS nn L 0 0 (Nat.zero_le _) (Nat.zero_le _) (by omega)
        have hd := fromV_den hS nn L 0 0 (by omega) (by omega) (by omega)
        obtain ⟨U, hU⟩ : ∃ U, U = fromU (svN a c) (svN b d) nn L 0 0 := ⟨_, rfl⟩
        obtain ⟨D, hD⟩ : ∃ D, D = prodD (svN b d) (0 + 0) L := ⟨_, rfl⟩
        obtain ⟨E, hE⟩ : ∃ E, E = prodD (svN d b) (0 + 0) L := ⟨_, rfl⟩
        rw [← hU, ← hD] at hr
        have hDE : D * E = M := by rw [hD, hE, hM]; exact prod_all b d L _
        have hE0 : 0 < E := by
          rcases Int.lt_or_le 0 E with h | h
          · exact h
          · have := Int.mul_le_mul_of_nonneg_left h (Int.le_of_lt hr.d0)
            rw [hDE, Int.mul_zero] at this
            omega
        have hN0 : 0 ≤ U * E := Int.mul_nonneg hr.u0 (Int.le_of_lt hE0)
        have hN1 : U * E ≤ M := by rw [← hDE]; exact Int.mul_le_mul_of_nonneg_right hr.le (Int.le_of_lt hE0)
        have hlow := low_is (U * E) M hN0 hM0 (by omega) (by omega) (M.toNat + 100) (by omega)
        have hpow := power_is (b * d) hA.1 hA.2.1 L (M.toNat + 100) hL7 (by omega)
        have hsv := serve_is a b c d g0 g1 nn hnn.2 L 0 0 (M.toNat + 100) (Nat.zero_le _) (Nat.zero_le _) (by omega) (by omega)
        rw [← hU, ← hE, Int.natCast_zero] at hsv
        rw [← hM] at hpow
        have hMn : M.toNat ≠ 0 := by omega
        have hrep : Rep (lowN (U * E) M.toNat, lowD (U * E) M.toNat) U D := low_rep hN0 hMn (by
          rw [Int.toNat_of_nonneg (Int.le_of_lt hM0), ← hDE, Int.mul_assoc, Int.mul_comm E D]) hr.u0 hr.le hr.d0
        have huni := Rep_unique hrep hr (lowD_pos hMn) hd
        refine ⟨M.toNat + 100 + 1, ?_⟩
        have hsd : servV a b c d (nn : Int) = (lowN (U * E) M.toNat, lowD (U * E) M.toNat) := by
          unfold servV
          rw [Int.toNat_natCast, show 2 * nn - 1 = L by omega]
          exact huni.symm
        rw [if_pos ⟨g0, g1, g2⟩, hsd]
        unfold spec_ServeChance.f
        rw [chGood_val, chGood_val, l1In_val, decide_eq_true g0, decide_eq_true g1, decide_eq_true g2]
        simp only [Option.bind_some, if_true, Bool.not_true, spec_ServeChance.j0]
        rw [if_neg (by decide), HW1.out, HW2.out, HWA.out, hsv]
        simp only [Option.bind_some]
        rw [hpow]
        simp only [Option.bind_some]
        rw [hlow]
        rfl
      · refine ⟨1, ?_⟩
        rw [if_neg (fun h => g2 h.2.2)]
        unfold spec_ServeChance.f
        rw [chGood_val, chGood_val, l1In_val, decide_eq_true g0, decide_eq_true g1, decide_eq_false g2]
        rfl
    · refine ⟨1, ?_⟩
      rw [if_neg (fun h => g1 h.2.1)]
      unfold spec_ServeChance.f
      rw [chGood_val, chGood_val, decide_eq_true g0, decide_eq_false g1]
      rfl
  · refine ⟨1, ?_⟩
    rw [if_neg (fun h => g0 h.1)]
    unfold spec_ServeChance.f
    rw [chGood_val, decide_eq_false g0]
    rfl
theorem FnExactServeChance : ∀ (a0_0 : Int) (a0_1 : Int) (a1_0 : Int) (a1_1 : Int) (a2 : Int), (Lit.int .i64 a0_0).wf = true → (Lit.int .i64 a0_1).wf = true → (Lit.int .i64 a1_0).wf = true → (Lit.int .i64 a1_1).wf = true → (Lit.int .i64 a2).wf = true → ∃ k, laws_FnExactServeChance.f k a0_0 a0_1 a1_0 a1_1 a2 = some true := by
  intro a b c d e _ _ _ _ _
  obtain ⟨k, hk⟩ := spec_is a b c d e
  refine ⟨k, ?_⟩
  obtain ⟨r, hr⟩ : ∃ r, impl_ServeChance.f a b c d e = some r := by
    unfold impl_ServeChance.f
    split <;> exact ⟨_, rfl⟩
  unfold laws_FnExactServeChance.f laws_toOdds.f
  simp only [Option.bind_some]
  rw [hk, hr]
  simp

end Go.Proofs.Ytmkjkcfmjfeheaa.Pure
