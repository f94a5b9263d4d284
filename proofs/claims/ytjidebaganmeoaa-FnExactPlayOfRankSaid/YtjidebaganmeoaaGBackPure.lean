import Derived.Test.YtjidebaganmeoaaGBack
import Derived.Test.YtjidebaganmeoaaGWaysPure
/-! What spec.raBack computes, in plain Lean. -/
namespace Go.Proofs.Ytjidebaganmeoaa.BackP
open Go.RowKit Go.Proofs.Ytjidebaganmeoaa.WaysP Go.Proofs.Ytjidebaganmeoaa.QBack Go.Proofs.YtjidebaganmeoaaW.PrintWords Go.Proofs.YtjidebaganmeoaaW.PrintLast Go.Proofs.YtjidebaganmeoaaW.PrintMore
set_option linter.unusedVariables false
set_option linter.unusedSimpArgs false
set_option linter.unusedSectionVars false

theorem won_b (t l x y : Int) (hx : 0 ≤ x) (hx2 : x ≤ 200) (hy : 0 ≤ y) (hy2 : y ≤ 200) : Ev (fun k => spec_raWon.f k t l x y) (won t l x y) := by
  have e1 : wrap64 (x - y) = x - y := wrap_id (by omega) (by omega)
  have e2 : wrap64 (y - x) = y - x := wrap_id (by omega) (by omega)
  unfold spec_raWon.f won
  by_cases c1 : t ≤ x <;> by_cases c2 : l ≤ x - y <;> by_cases c3 : t ≤ y <;> by_cases c4 : l ≤ y - x <;>
    (simp only [ge_iff_le, c1, c2, c3, c4, e1, e2, if_true, if_false, true_and, and_true, false_and, and_false, decide_true, decide_false]
     refine ev_some fun k => ?_
     simp [spec_raWon.j0, c1, c2, c3, c4, e1, e2])
theorem least_b (a b : Int) : spec_l1Least.f a b = some (if a < b then a else b) := by
  unfold spec_l1Least.f
  split <;> rfl
theorem rdr_b {n m : Nat} (f : Nat → Nat → Int) {i : Nat} (h : i < n) : rd_L1 (mat n m f) (i : Int) = (List.range m).map (f i) := by
  unfold rd_L1
  rw [Int.toNat_natCast]
  exact mat_row m f h

def Dk (t l : Int) (a b i j : Nat) : Int := cp C0 (Bw (opn t l) (a : Int) (b : Int) (i : Int) (j : Int))
def Sk (t l : Int) (a b : Nat) (x y : Int) (i j : Nat) : Int := if x < (i : Int) ∨ ((i : Int) = x ∧ y < (j : Int)) then Dk t l a b i j else 0
section
variable {t l : Int} {a b : Nat} (ha : a ≤ 100) (hb : b ≤ 100)
include ha hb
theorem Dk_le (i j : Nat) : 0 ≤ Dk t l a b i j ∧ Dk t l a b i j ≤ C0 := by
  have := C0_lo
  unfold Dk cp
  split <;> omega
theorem Dk_out (i j : Nat) (h : a < i ∨ b < j) : Dk t l a b i j = 0 := by
  have := C0_lo
  unfold Dk cp
  rw [Bw_out _ _ _ _ _ (by omega), if_pos (by simp; omega)]
  rfl
theorem Dk_end : Dk t l a b a b = 1 := by
  have := C0_lo
  unfold Dk cp
  rw [Bw_end, if_pos (by simp; omega)]
  rfl
theorem Dk_open {x y : Nat} (hx : x ≤ a) (hy : y ≤ b) (h : ¬ (x = a ∧ y = b)) (ho : opn t l x y = true) : Dk t l a b x y = if Dk t l a b (x + 1) y + Dk t l a b x (y + 1) < C0 then Dk t l a b (x + 1) y + Dk t l a b x (y + 1) else C0 := by
  have := C0_lo
  unfold Dk
  rw [Bw_step _ _ _ _ _ (by omega) (by omega) (by omega), if_pos ho]
  have e1 : ((x + 1 : Nat) : Int) = (x : Int) + 1 := by omega
  have e2 : ((y + 1 : Nat) : Int) = (y : Int) + 1 := by omega
  rw [e1, e2]
  generalize Bw (opn t l) (a : Int) (b : Int) ((x : Int) + 1) y = p
  generalize Bw (opn t l) (a : Int) (b : Int) x ((y : Int) + 1) = q
  unfold cp
  split <;> split <;> split <;> split <;> omega
theorem Dk_shut {x y : Nat} (hx : x ≤ a) (hy : y ≤ b) (h : ¬ (x = a ∧ y = b)) (ho : opn t l x y = false) : Dk t l a b x y = 0 := by
  have := C0_lo
  unfold Dk cp
  rw [Bw_step _ _ _ _ _ (by omega) (by omega) (by omega), ho]
  simp
  omega
theorem Sk_set {x y : Nat} (hx : x ≤ a) (hy : y ≤ b) (v : Int) (hv : v = Dk t l a b x y) :
    mat (a + 1) (b + 1) (fun p q => if p = x ∧ q = y then v else Sk t l a b x y p q) = mat (a + 1) (b + 1) (Sk t l a b (x : Int) ((y : Int) - 1)) := by
  apply mat_congr
  intro i j hi hj
  unfold Sk
  by_cases e : i = x ∧ j = y
  · obtain ⟨rfl, rfl⟩ := e
    rw [if_pos (by omega), if_pos (by omega), hv]
  · rw [if_neg e]
    by_cases e2 : (x : Int) < i ∨ ((i : Int) = x ∧ (y : Int) < j)
    · rw [if_pos e2, if_pos (by omega)]
    · rw [if_neg e2, if_neg (by omega)]
theorem l2_step {x y : Nat} (hx : x ≤ a) (hy : y ≤ b) (r : List (List Int))
    (h : Ev (fun k => spec_raBack.l2 k a b (mat (a + 1) (b + 1) (Sk t l a b (x : Int) ((y : Int) - 1))) x ((y : Int) - 1) t l) r) :
    Ev (fun k => spec_raBack.l2 k a b (mat (a + 1) (b + 1) (Sk t l a b (x : Int) (y : Int))) x y t l) r := by
  have hr : ∀ i : Nat, i < a + 1 → rd_L1 (mat (a + 1) (b + 1) (Sk t l a b (x : Int) (y : Int))) (i : Int) = (List.range (b + 1)).map (Sk t l a b (x : Int) (y : Int) i) := fun i hi => rdr_b _ hi
  have hrl : ∀ i : Nat, i < a + 1 → ∀ j : Nat, j < b + 1 → (j : Int) < ((rd_L1 (mat (a + 1) (b + 1) (Sk t l a b (x : Int) (y : Int))) (i : Int)).length : Int) := by
    intro i hi j hj
    rw [hr i hi, List.length_map, List.length_range]
    omega
  have hml : ∀ i : Nat, i < a + 1 → (i : Int) < ((mat (a + 1) (b + 1) (Sk t l a b (x : Int) (y : Int))).length : Int) := by
    intro i hi
    rw [mat_len]
    omega
  have hwy : wrap64 ((y : Int) - 1) = (y : Int) - 1 := wrap_id (by omega) (by omega)
  have hwx1 : wrap64 ((x : Int) + 1) = ((x + 1 : Nat) : Int) := by rw [wrap_id (by omega) (by omega)]; omega
  have hwy1 : wrap64 ((y : Int) + 1) = ((y + 1 : Nat) : Int) := by rw [wrap_id (by omega) (by omega)]; omega
  have hset : ∀ v : Int, (mat (a + 1) (b + 1) (Sk t l a b (x : Int) (y : Int))).set (x : Int).toNat ((rd_L1 (mat (a + 1) (b + 1) (Sk t l a b (x : Int) (y : Int))) (x : Int)).set (y : Int).toNat v) = mat (a + 1) (b + 1) (fun p q => if p = x ∧ q = y then v else Sk t l a b (x : Int) (y : Int) p q) := by
    intro v
    rw [hr x (by omega), Int.toNat_natCast, Int.toNat_natCast]
    exact mat_set (n := a + 1) (m := b + 1) (Sk t l a b (x : Int) (y : Int)) (i := x) (j := y) (by omega) (by omega) v
  have z1 : ∀ n : Nat, (0 : Int) ≤ (n : Int) := fun n => by omega
  refine Ev.step (f := fun k => spec_raBack.j3 k a b (mat (a + 1) (b + 1) (Sk t l a b (x : Int) (y : Int))) x y (decide (x = a ∧ y = b)) t l) (fun k => ?_) ?_
  · simp only [spec_raBack.l2]
    rw [if_pos (by omega)]
    by_cases hxa : x = a
    · rw [if_pos (by omega)]
      congr 1
      by_cases hyb : y = b
      · simp [hxa, hyb]
      · have : ((y : Int) == (b : Int)) = false := by simp; omega
        rw [this]
        simp [hyb]
    · rw [if_neg (by omega)]
      simp [hxa]
  · by_cases he : x = a ∧ y = b
    · refine Ev.step (fun k => ?_) h
      simp only [spec_raBack.j3]
      rw [if_pos (by simp [he]), if_pos (z1 x), if_pos (hml x (by omega)), if_pos (z1 y), if_pos (hrl x (by omega) y (by omega)), hset, hwy, Sk_set ha hb hx hy 1 (by rw [he.1, he.2]; exact (Dk_end ha hb).symm)]
    · have b1 := Dk_le (t := t) (l := l) ha hb (x + 1) y
      have b2 := Dk_le (t := t) (l := l) ha hb x (y + 1)
      have hC := C0_hi
      have hs1 : ∀ p : Int, 0 ≤ p → p ≤ C0 → wrap64 p = p := fun p h1 h2 => wrap_id (by omega) (by omega)
      have hsum : ∀ p q : Int, 0 ≤ p → p ≤ C0 → 0 ≤ q → q ≤ C0 → wrap64 (p + q) = p + q := fun p q h1 h2 h3 h4 => wrap_id (by omega) (by omega)
      have hS : opn t l x y = false → mat (a + 1) (b + 1) (Sk t l a b (x : Int) (y : Int)) = mat (a + 1) (b + 1) (Sk t l a b (x : Int) ((y : Int) - 1)) := by
        intro ho'
        rw [← Sk_set ha hb hx hy 0 (Dk_shut ha hb hx hy he ho').symm]
        apply mat_congr
        intro i j hi hj
        by_cases e : i = x ∧ j = y
        · rw [if_pos e]
          unfold Sk
          rw [if_neg (by omega)]
        · rw [if_neg e]
      refine Ev.step (f := fun k => (spec_raWon.f k t l (x : Int) (y : Int)).bind fun t114 => if t114 = 0 then spec_raBack.l2 k a b (mat (a + 1) (b + 1) (fun p q => if p = x ∧ q = y then (if Dk t l a b (x + 1) y + Dk t l a b x (y + 1) < C0 then Dk t l a b (x + 1) y + Dk t l a b x (y + 1) else C0) else Sk t l a b x y p q)) x ((y : Int) - 1) t l else spec_raBack.l2 k a b (mat (a + 1) (b + 1) (Sk t l a b (x : Int) (y : Int))) x ((y : Int) - 1) t l) (fun k => ?_) ?_
      · simp only [spec_raBack.j3]
        rw [if_neg (by simpa using he)]
        congr 1
        funext t114
        by_cases h0 : t114 = 0
        · rw [if_pos h0, if_pos h0]
          have hv2 : y < b → rd (rd_L1 (mat (a + 1) (b + 1) (Sk t l a b (x : Int) (y : Int))) (x : Int)) ((y + 1 : Nat) : Int) = Dk t l a b x (y + 1) := by
            intro hyb
            rw [hr x (by omega), rdc _ (by omega)]
            unfold Sk
            rw [if_pos (by omega)]
          have hv2' : ¬ y < b → Dk t l a b x (y + 1) = 0 := fun hyb => Dk_out ha hb _ _ (by omega)
          by_cases hxa : x < a
          · have hxa' : (x : Int) < (a : Int) := by omega
            have hv1 : rd (rd_L1 (mat (a + 1) (b + 1) (Sk t l a b (x : Int) (y : Int))) ((x + 1 : Nat) : Int)) (y : Int) = Dk t l a b (x + 1) y := by
              rw [hr (x + 1) (by omega), rdc _ (by omega)]
              unfold Sk
              rw [if_pos (by omega)]
            rw [if_pos hxa', hwx1, if_pos (z1 (x + 1)), if_pos (hml (x + 1) (by omega)), if_pos (z1 y), if_pos (hrl (x + 1) (by omega) y (by omega)), hv1, Int.zero_add, hs1 _ b1.1 b1.2]
            by_cases hyb : y < b
            · have hyb' : (y : Int) < (b : Int) := by omega
              rw [if_pos hyb', if_pos (z1 x), if_pos (hml x (by omega)), hwy1, if_pos (z1 (y + 1)), if_pos (hrl x (by omega) (y + 1) (by omega)), hv2 hyb, hsum _ _ b1.1 b1.2 b2.1 b2.2, least_b, Option.bind_some, if_pos (hrl x (by omega) y (by omega)), hset, hwy, C0_is]
            · have hyb' : ¬ (y : Int) < (b : Int) := by omega
              rw [if_neg hyb', if_pos (z1 x), if_pos (hml x (by omega)), least_b, Option.bind_some, if_pos (hrl x (by omega) y (by omega)), hset, hwy, C0_is, hv2' hyb, Int.add_zero]
          · have hxa' : ¬ (x : Int) < (a : Int) := by omega
            have hv1' : Dk t l a b (x + 1) y = 0 := Dk_out ha hb _ _ (by omega)
            rw [if_neg hxa', hv1', Int.zero_add]
            by_cases hyb : y < b
            · have hyb' : (y : Int) < (b : Int) := by omega
              rw [if_pos hyb', if_pos (z1 x), if_pos (hml x (by omega)), hwy1, if_pos (z1 (y + 1)), if_pos (hrl x (by omega) (y + 1) (by omega)), hv2 hyb, Int.zero_add, hs1 _ b2.1 b2.2, least_b, Option.bind_some, if_pos (z1 y), if_pos (hrl x (by omega) y (by omega)), hset, hwy, C0_is]
            · have hyb' : ¬ (y : Int) < (b : Int) := by omega
              rw [if_neg hyb', if_pos (z1 x), if_pos (hml x (by omega)), least_b, Option.bind_some, if_pos (z1 y), if_pos (hrl x (by omega) y (by omega)), hset, hwy, C0_is, hv2' hyb, Int.add_zero]
        · rw [if_neg h0, if_neg h0, hwy]
      · refine Ev.bind (won_b t l (x : Int) (y : Int) (by omega) (by omega) (by omega) (by omega)) ?_
        by_cases h0 : won t l (x : Int) (y : Int) = 0
        · have ho : opn t l (x : Int) (y : Int) = true := by unfold opn; simp [h0]
          simp only [h0, if_true]
          rw [Sk_set ha hb hx hy _ (Dk_open ha hb hx hy he ho).symm]
          exact h
        · have ho : opn t l (x : Int) (y : Int) = false := by unfold opn; simp [h0]
          simp only [h0, if_false]
          rw [hS ho]
          exact h
theorem l2_ev {x : Nat} (hx : x ≤ a) (r : List (List Int)) (h : Ev (fun k => spec_raBack.l1 k a b (mat (a + 1) (b + 1) (Sk t l a b ((x : Int) - 1) (b : Int))) ((x : Int) - 1) t l) r) (d : Nat) : ∀ y : Int, y + 1 = d → y ≤ b →
    Ev (fun k => spec_raBack.l2 k a b (mat (a + 1) (b + 1) (Sk t l a b (x : Int) y)) x y t l) r := by
  induction d with
  | zero =>
    intro y hy _
    refine Ev.step (fun k => ?_) h
    simp only [spec_raBack.l2]
    rw [if_neg (by omega), wrap_id (by omega) (by omega)]
    congr 1
    apply mat_congr
    intro i j hi hj
    unfold Sk
    by_cases e : (x : Int) - 1 < i ∨ ((i : Int) = (x : Int) - 1 ∧ (b : Int) < j)
    · rw [if_pos e]
      by_cases e2 : (x : Int) < i ∨ ((i : Int) = x ∧ y < j)
      · rw [if_pos e2]
      · rw [if_neg e2, Dk_out ha hb _ _ (by omega)]
    · rw [if_neg e, if_neg (by omega)]
  | succ d ih =>
    intro y hy hyb
    obtain ⟨n, rfl⟩ : ∃ n : Nat, y = (n : Int) := ⟨y.toNat, by omega⟩
    exact l2_step ha hb hx (by omega) r (ih ((n : Int) - 1) (by omega) (by omega))
theorem l1_ev (d : Nat) : ∀ x : Int, x + 1 = d → x ≤ a → Ev (fun k => spec_raBack.l1 k a b (mat (a + 1) (b + 1) (Sk t l a b x (b : Int))) x t l) (mat (a + 1) (b + 1) (Dk t l a b)) := by
  induction d with
  | zero =>
    intro x hx _
    refine ev_some fun k => ?_
    simp only [spec_raBack.l1]
    rw [if_neg (by omega)]
    congr 1
    apply mat_congr
    intro i j hi hj
    unfold Sk
    rw [if_pos (by omega)]
  | succ d ih =>
    intro x hx hxa
    obtain ⟨n, rfl⟩ : ∃ n : Nat, x = (n : Int) := ⟨x.toNat, by omega⟩
    refine Ev.step (fun k => ?_) (l2_ev ha hb (by omega) _ (ih ((n : Int) - 1) (by omega) (by omega)) (b + 1) (b : Int) (by omega) (by omega))
    simp only [spec_raBack.l1]
    rw [if_pos (by omega), if_pos (by omega), if_pos (by rw [mat_len]; omega)]
theorem l0_ev (d : Nat) : ∀ i : Nat, i + d = a + 1 → Ev (fun k => spec_raBack.l0 k a b (mat i (b + 1) (fun _ _ => 0)) (i : Int) t l) (mat (a + 1) (b + 1) (Dk t l a b)) := by
  induction d with
  | zero =>
    intro i hi
    refine Ev.step (fun k => ?_) (l1_ev ha hb (a + 1) (a : Int) (by omega) (by omega))
    simp only [spec_raBack.l0]
    rw [if_neg (by omega), show i = a + 1 by omega]
    congr 1
    apply mat_congr
    intro p q hp hq
    unfold Sk
    rw [if_neg (by omega)]
  | succ d ih =>
    intro i hi
    have hw : wrap64 ((b : Int) + 1) = ((b + 1 : Nat) : Int) := by rw [wrap_id (by omega) (by omega)]; omega
    have hw2 : wrap64 ((i : Int) + 1) = ((i + 1 : Nat) : Int) := by rw [wrap_id (by omega) (by omega)]; omega
    refine Ev.step (fun k => ?_) (ih (i + 1) (by omega))
    simp only [spec_raBack.l0]
    rw [if_pos (by omega), hw, if_pos (by omega), Int.toNat_natCast, if_pos (by omega), if_pos (by rw [mat_len]; omega), mat_snoc _ _ _ (fun j hj => rfl), hw2]
theorem raBack_ev : Ev (fun k => Go.Proofs.Ytjidebaganmeoaa.spec_raBack.f k t l a b) (mat (a + 1) (b + 1) (Dk t l a b)) := by
  have := l0_ev (t := t) (l := l) ha hb (a + 1) 0 (by omega)
  exact this
end
end Go.Proofs.Ytjidebaganmeoaa.BackP
