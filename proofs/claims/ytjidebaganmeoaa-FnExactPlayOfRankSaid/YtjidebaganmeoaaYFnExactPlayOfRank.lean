/- What the printed functions of FnExactPlayOfRank compute answers true, at every argument of its types. No condition beside the types' own bounds. -/
import Derived.Test.YtjidebaganmeoaaGBackPure
import Derived.Test.YtjidebaganmeoaaQFnExactPlayOfRankx
namespace Go.Proofs.Ytjidebaganmeoaa.Pure
open Go.RowKit Go.Proofs.Ytjidebaganmeoaa.QFnExactPlayOfRank Go.Proofs.YtjidebaganmeoaaW.PrintWords Go.Proofs.YtjidebaganmeoaaW.PrintLast Go.Proofs.YtjidebaganmeoaaW.PrintMore
set_option linter.unusedVariables false
set_option linter.unusedSimpArgs false
set_option linter.unusedSectionVars false

open Go.Proofs.Ytjidebaganmeoaa.WaysP
theorem hasWon_eq (t l x y : Int) (hx : 0 ≤ x) (hx2 : x ≤ 200) (hy : 0 ≤ y) (hy2 : y ≤ 200) : impl_Race_hasWon.f t l x y = some (decide (t ≤ x ∧ l ≤ x - y)) := by
  have e1 : wrap64 (x - y) = x - y := wrap_id (by omega) (by omega)
  unfold impl_Race_hasWon.f
  by_cases c1 : t ≤ x <;> simp [c1, e1]
theorem isOpen_eq (t l x y : Int) (hx : 0 ≤ x) (hx2 : x ≤ 200) (hy : 0 ≤ y) (hy2 : y ≤ 200) : impl_Race_isOpen.f t l x y = some (opn t l x y) := by
  unfold impl_Race_isOpen.f opn won
  rw [hasWon_eq t l x y hx hx2 hy hy2, hasWon_eq t l y x hy hy2 hx hx2]
  by_cases c1 : t ≤ x ∧ l ≤ x - y <;> by_cases c2 : t ≤ y ∧ l ≤ y - x <;> simp [c1, c2]

def Bk (C t l : Int) (a b i j : Nat) : Int := cp C (Bw (opn t l) (a : Int) (b : Int) (i : Int) (j : Int))
def Sb (C t l : Int) (a b : Nat) (x y : Int) (i j : Nat) : Int := if x < (i : Int) ∨ ((i : Int) = x ∧ y < (j : Int)) then Bk C t l a b i j else 0
theorem rdr' {n m : Nat} (f : Nat → Nat → Int) {i : Nat} (h : i < n) : rd_L1 (mat n m f) (i : Int) = (List.range m).map (f i) := by
  unfold rd_L1
  rw [Int.toNat_natCast]
  exact mat_row m f h
def Zr (a b i : Nat) : List (List Int) := (List.range (a + 2)).map fun p => if p < i then List.replicate (b + 2) 0 else []
theorem Zr_set (a b i : Nat) (hi : i < a + 2) : (Zr a b i).set i (List.replicate (b + 2) 0) = Zr a b (i + 1) := by
  apply List.ext_getElem?
  intro p
  by_cases hp : p < a + 2
  · by_cases e : p = i
    · subst e
      rw [List.getElem?_set_self (by simp [Zr]; omega)]
      simp [Zr, hp]
    · rw [List.getElem?_set_ne (fun h => e h.symm)]
      simp only [Zr, List.getElem?_map, List.getElem?_range hp, Option.map_some]
      by_cases h2 : p < i
      · rw [if_pos h2, if_pos (by omega)]
      · rw [if_neg h2, if_neg (by omega)]
  · rw [List.getElem?_eq_none (by simp [Zr]; omega), List.getElem?_eq_none (by simp [Zr]; omega)]
theorem Zr_end (a b : Nat) : Zr a b (a + 2) = mat (a + 2) (b + 2) (fun _ _ => 0) := by
  unfold Zr mat
  apply List.map_congr_left
  intro p hp
  have hp' : p < a + 2 := by simpa using hp
  rw [if_pos hp']
  apply List.ext_getElem?
  intro q
  by_cases hq : q < b + 2
  · simp [hq]
  · rw [List.getElem?_eq_none (by simp; omega), List.getElem?_eq_none (by simp; omega)]
theorem Zr_0 (a b : Nat) : (List.replicate (a + 2) ([] : List Int)) = Zr a b 0 := by
  unfold Zr
  apply List.ext_getElem?
  intro q
  by_cases hq : q < a + 2
  · simp [hq]
  · rw [List.getElem?_eq_none (by simp; omega), List.getElem?_eq_none (by simp; omega)]

section
variable {C t l : Int} {a b : Nat} (ha : a ≤ 100) (hb : b ≤ 100) (hC : 2 ≤ C) (hC2 : C ≤ 2000000000000000000)
include ha hb hC hC2
theorem Bk_le (i j : Nat) : 0 ≤ Bk C t l a b i j ∧ Bk C t l a b i j ≤ C := by
  unfold Bk cp
  split <;> omega
theorem Bk_out (i j : Nat) (h : a < i ∨ b < j) : Bk C t l a b i j = 0 := by
  unfold Bk cp
  rw [Bw_out _ _ _ _ _ (by omega)]
  split <;> simp at * <;> omega
theorem Bk_end : Bk C t l a b a b = 1 := by
  unfold Bk cp
  rw [Bw_end, if_pos (by simp; omega)]
  rfl
theorem Bk_open {x y : Nat} (hx : x ≤ a) (hy : y ≤ b) (h : ¬ (x = a ∧ y = b)) (ho : opn t l x y = true) : Bk C t l a b x y = if C ≤ Bk C t l a b (x + 1) y + Bk C t l a b x (y + 1) then C else Bk C t l a b (x + 1) y + Bk C t l a b x (y + 1) := by
  unfold Bk
  rw [Bw_step _ _ _ _ _ (by omega) (by omega) (by omega), if_pos ho]
  have e1 : ((x + 1 : Nat) : Int) = (x : Int) + 1 := by omega
  have e2 : ((y + 1 : Nat) : Int) = (y : Int) + 1 := by omega
  rw [e1, e2]
  generalize Bw (opn t l) (a : Int) (b : Int) ((x : Int) + 1) y = p
  generalize Bw (opn t l) (a : Int) (b : Int) x ((y : Int) + 1) = q
  unfold cp
  split <;> split <;> split <;> split <;> omega
theorem Bk_shut {x y : Nat} (hx : x ≤ a) (hy : y ≤ b) (h : ¬ (x = a ∧ y = b)) (ho : opn t l x y = false) : Bk C t l a b x y = 0 := by
  unfold Bk cp
  rw [Bw_step _ _ _ _ _ (by omega) (by omega) (by omega), ho]
  simp
  omega
theorem Sb_set {x y : Nat} (hx : x ≤ a) (hy : y ≤ b) (v : Int) (hv : v = Bk C t l a b x y) :
    mat (a + 2) (b + 2) (fun p q => if p = x ∧ q = y then v else Sb C t l a b x y p q) = mat (a + 2) (b + 2) (Sb C t l a b (x : Int) ((y : Int) - 1)) := by
  apply mat_congr
  intro i j hi hj
  unfold Sb
  by_cases e : i = x ∧ j = y
  · obtain ⟨rfl, rfl⟩ := e
    rw [if_pos (by omega), if_pos (by omega), hv]
  · rw [if_neg e]
    by_cases e2 : (x : Int) < i ∨ ((i : Int) = x ∧ (y : Int) < j)
    · rw [if_pos e2, if_pos (by omega)]
    · rw [if_neg e2, if_neg (by omega)]
theorem l2_step {x y : Nat} (hx : x ≤ a) (hy : y ≤ b) (r : List (List Int))
    (h : Ev (fun k => impl_Race_waysBetween.l2 k a b C (mat (a + 2) (b + 2) (Sb C t l a b (x : Int) ((y : Int) - 1))) x ((y : Int) - 1) t l) r) :
    Ev (fun k => impl_Race_waysBetween.l2 k a b C (mat (a + 2) (b + 2) (Sb C t l a b (x : Int) (y : Int))) x y t l) r := by
  have hml : ((mat (a + 2) (b + 2) (Sb C t l a b (x : Int) (y : Int))).length : Int) = (a : Int) + 2 := by rw [mat_len]; omega
  have hr : rd_L1 (mat (a + 2) (b + 2) (Sb C t l a b (x : Int) (y : Int))) (x : Int) = (List.range (b + 2)).map (Sb C t l a b (x : Int) (y : Int) x) := rdr' _ (by omega)
  have hrl : ((rd_L1 (mat (a + 2) (b + 2) (Sb C t l a b (x : Int) (y : Int))) (x : Int)).length : Int) = (b : Int) + 2 := by rw [hr]; simp
  have hr1 : rd_L1 (mat (a + 2) (b + 2) (Sb C t l a b (x : Int) (y : Int))) ((x + 1 : Nat) : Int) = (List.range (b + 2)).map (Sb C t l a b (x : Int) (y : Int) (x + 1)) := rdr' _ (by omega)
  have hrl1 : ∀ z : Unit, ((rd_L1 (mat (a + 2) (b + 2) (Sb C t l a b (x : Int) (y : Int))) ((x + 1 : Nat) : Int)).length : Int) = (b : Int) + 2 := fun _ => by rw [hr1]; simp
  have hwy : wrap64 ((y : Int) - 1) = (y : Int) - 1 := wrap_id (by omega) (by omega)
  have hwx1 : wrap64 ((x : Int) + 1) = ((x + 1 : Nat) : Int) := by rw [wrap_id (by omega) (by omega)]; omega
  have hwy1 : wrap64 ((y : Int) + 1) = ((y + 1 : Nat) : Int) := by rw [wrap_id (by omega) (by omega)]; omega
  have hset : ∀ v : Int, (mat (a + 2) (b + 2) (Sb C t l a b (x : Int) (y : Int))).set (x : Int).toNat ((rd_L1 (mat (a + 2) (b + 2) (Sb C t l a b (x : Int) (y : Int))) (x : Int)).set (y : Int).toNat v) = mat (a + 2) (b + 2) (fun p q => if p = x ∧ q = y then v else Sb C t l a b (x : Int) (y : Int) p q) := by
    intro v
    rw [hr, Int.toNat_natCast, Int.toNat_natCast]
    exact mat_set (n := a + 2) (m := b + 2) (Sb C t l a b (x : Int) (y : Int)) (i := x) (j := y) (by omega) (by omega) v
  refine Ev.step (f := fun k => impl_Race_waysBetween.j3 k a b C (mat (a + 2) (b + 2) (Sb C t l a b (x : Int) (y : Int))) x y (decide (x = a ∧ y = b)) t l) (fun k => ?_) ?_
  · simp only [impl_Race_waysBetween.l2]
    rw [if_pos (by omega)]
    by_cases hxa : x = a
    · rw [if_pos (by omega)]
      congr 1
      by_cases hyb : y = b
      · simp [hxa, hyb]
      · have : ((y : Int) == (b : Int)) = false := by simp; omega
        rw [this]
        simp [hyb]
    · rw [if_neg (by omega)]
      simp [hxa]
  · by_cases he : x = a ∧ y = b
    · refine Ev.step (fun k => ?_) h
      simp only [impl_Race_waysBetween.j3]
      rw [if_pos (by simp [he]), if_pos (by omega), if_pos (by omega), if_pos (by omega), if_pos (by omega), hset, hwy, Sb_set ha hb hC hC2 hx hy 1 (by rw [he.1, he.2]; exact (Bk_end ha hb hC hC2).symm)]
    · have hop := isOpen_eq t l (x : Int) (y : Int) (by omega) (by omega) (by omega) (by omega)
      by_cases ho : opn t l x y = true
      · have hv1 : rd (rd_L1 (mat (a + 2) (b + 2) (Sb C t l a b (x : Int) (y : Int))) ((x + 1 : Nat) : Int)) (y : Int) = Bk C t l a b (x + 1) y := by
          rw [hr1, rdc _ (by omega)]
          unfold Sb
          rw [if_pos (by omega)]
        have hv2 : rd (rd_L1 (mat (a + 2) (b + 2) (Sb C t l a b (x : Int) (y : Int))) (x : Int)) ((y + 1 : Nat) : Int) = Bk C t l a b x (y + 1) := by
          rw [hr, rdc _ (by omega)]
          unfold Sb
          rw [if_pos (by omega)]
        have b1 := Bk_le (t := t) (l := l) ha hb hC hC2 (x + 1) y
        have b2 := Bk_le (t := t) (l := l) ha hb hC hC2 x (y + 1)
        have hsum : ∀ p q : Int, 0 ≤ p → p ≤ C → 0 ≤ q → q ≤ C → wrap64 (p + q) = p + q := fun p q h1 h2 h3 h4 => wrap_id (by omega) (by omega)
        have hmn : ∀ p : Int, mn p C = if C ≤ p then C else p := by
          intro p
          unfold mn
          split <;> split <;> omega
        refine Ev.step (fun k => ?_) h
        simp only [impl_Race_waysBetween.j3]
        rw [if_neg (by simpa using he), hop, Option.bind_some, if_pos ho, if_pos (by omega), if_pos (by omega), hwx1, if_pos (by omega), if_pos (by omega), if_pos (by omega), if_pos (by rw [hrl1 ()]; omega), hwy1, if_pos (by omega), if_pos (by omega), if_pos (by omega), hset, hwy, hv1, hv2, hsum _ _ b1.1 b1.2 b2.1 b2.2, hmn, Sb_set ha hb hC hC2 hx hy _ (Bk_open ha hb hC hC2 hx hy he ho).symm]
      · have ho' : opn t l x y = false := by simpa using ho
        have hS : mat (a + 2) (b + 2) (Sb C t l a b (x : Int) (y : Int)) = mat (a + 2) (b + 2) (Sb C t l a b (x : Int) ((y : Int) - 1)) := by
          rw [← Sb_set ha hb hC hC2 hx hy 0 (Bk_shut ha hb hC hC2 hx hy he ho').symm]
          apply mat_congr
          intro i j hi hj
          by_cases e : i = x ∧ j = y
          · rw [if_pos e]
            unfold Sb
            rw [if_neg (by omega)]
          · rw [if_neg e]
        refine Ev.step (fun k => ?_) h
        simp only [impl_Race_waysBetween.j3]
        rw [if_neg (by simpa using he), hop, Option.bind_some, if_neg ho, hwy, hS]
theorem l2_ev {x : Nat} (hx : x ≤ a) (r : List (List Int)) (h : Ev (fun k => impl_Race_waysBetween.l1 k a b C (mat (a + 2) (b + 2) (Sb C t l a b ((x : Int) - 1) (b : Int))) ((x : Int) - 1) t l) r) (d : Nat) : ∀ y : Int, y + 1 = d → y ≤ b →
    Ev (fun k => impl_Race_waysBetween.l2 k a b C (mat (a + 2) (b + 2) (Sb C t l a b (x : Int) y)) x y t l) r := by
  induction d with
  | zero =>
    intro y hy _
    refine Ev.step (fun k => ?_) h
    simp only [impl_Race_waysBetween.l2]
    rw [if_neg (by omega), wrap_id (by omega) (by omega)]
    congr 1
    apply mat_congr
    intro i j hi hj
    unfold Sb
    by_cases e : (x : Int) - 1 < i ∨ ((i : Int) = (x : Int) - 1 ∧ (b : Int) < j)
    · rw [if_pos e]
      by_cases e2 : (x : Int) < i ∨ ((i : Int) = x ∧ y < j)
      · rw [if_pos e2]
      · rw [if_neg e2, Bk_out ha hb hC hC2 _ _ (by omega)]
    · rw [if_neg e, if_neg (by omega)]
  | succ d ih =>
    intro y hy hyb
    obtain ⟨n, rfl⟩ : ∃ n : Nat, y = (n : Int) := ⟨y.toNat, by omega⟩
    exact l2_step ha hb hC hC2 hx (by omega) r (ih ((n : Int) - 1) (by omega) (by omega))
theorem l1_ev' (d : Nat) : ∀ x : Int, x + 1 = d → x ≤ a → Ev (fun k => impl_Race_waysBetween.l1 k a b C (mat (a + 2) (b + 2) (Sb C t l a b x (b : Int))) x t l) (mat (a + 2) (b + 2) (Bk C t l a b)) := by
  induction d with
  | zero =>
    intro x hx _
    refine ev_some fun k => ?_
    simp only [impl_Race_waysBetween.l1]
    rw [if_neg (by omega)]
    congr 1
    apply mat_congr
    intro i j hi hj
    unfold Sb
    rw [if_pos (by omega)]
  | succ d ih =>
    intro x hx hxa
    obtain ⟨n, rfl⟩ : ∃ n : Nat, x = (n : Int) := ⟨x.toNat, by omega⟩
    refine Ev.step (fun k => ?_) (l2_ev ha hb hC hC2 (by omega) _ (ih ((n : Int) - 1) (by omega) (by omega)) (b + 1) (b : Int) (by omega) (by omega))
    simp only [impl_Race_waysBetween.l1]
    rw [if_pos (by omega)]
theorem l0_ev' (d : Nat) : ∀ i : Nat, i + d = a + 2 → Ev (fun k => impl_Race_waysBetween.l0 k a b C (Zr a b i) ((a + 2 : Nat) : Int) (i : Int) t l) (mat (a + 2) (b + 2) (Bk C t l a b)) := by
  induction d with
  | zero =>
    intro i hi
    refine Ev.step (fun k => ?_) (l1_ev' ha hb hC hC2 (a + 1) (a : Int) (by omega) (by omega))
    simp only [impl_Race_waysBetween.l0]
    rw [if_neg (by omega), show i = a + 2 by omega, Zr_end]
    congr 1
    apply mat_congr
    intro p q hp hq
    unfold Sb
    by_cases e : (a : Int) < p ∨ ((p : Int) = a ∧ (b : Int) < q)
    · rw [if_pos e, Bk_out ha hb hC hC2 _ _ (by omega)]
    · rw [if_neg e]
  | succ d ih =>
    intro i hi
    have hw : wrap64 ((b : Int) + 2) = ((b + 2 : Nat) : Int) := by rw [wrap_id (by omega) (by omega)]; omega
    refine Ev.step (fun k => ?_) (ih (i + 1) (by omega))
    simp only [impl_Race_waysBetween.l0]
    rw [if_pos (by omega), hw, if_pos (by omega), Int.toNat_natCast, if_pos (by omega), if_pos (by omega), if_pos (by simp [Zr]; omega), Int.toNat_natCast, Zr_set a b i (by omega), wrap_id (by omega) (by omega)]
    rfl
theorem waysBetween_ev : Ev (fun k => impl_Race_waysBetween.f k t l a b C) (mat (a + 2) (b + 2) (Bk C t l a b)) := by
  have hw : wrap64 ((a : Int) + 2) = ((a + 2 : Nat) : Int) := by rw [wrap_id (by omega) (by omega)]; omega
  refine Ev.congr (fun k => ?_) (l0_ev' ha hb hC hC2 (a + 2) 0 (by omega))
  unfold impl_Race_waysBetween.f
  rw [hw, if_pos (by omega), if_pos (by omega), Int.toNat_natCast, Option.bind_some, Zr_0 a b, show ((Zr a b 0).length : Int) = ((a + 2 : Nat) : Int) by simp [Zr]]
  rfl
end

def good (t l a b : Int) : Bool := decide ((1 ≤ t ∧ t ≤ 30) ∧ (1 ≤ l ∧ l ≤ 5) ∧ (0 ≤ a ∧ a ≤ 100) ∧ (0 ≤ b ∧ b ≤ 100 - a))
theorem l1In_eq (a b c : Int) : spec_l1In.f a b c = some (decide (b ≤ a ∧ a ≤ c)) := by
  unfold spec_l1In.f
  by_cases h : a ≥ b
  · rw [if_pos h]
    have h2 : b ≤ a := h
    simp [h2]
  · rw [if_neg h]
    have h2 : ¬ b ≤ a := h
    simp [h2]
theorem within_eq (a b c : Int) : impl_within.f a b c = some (decide (b ≤ a ∧ a ≤ c)) := by
  unfold impl_within.f
  by_cases h : b ≤ a
  · rw [if_pos h]
    simp [h]
  · rw [if_neg h]
    simp [h]
theorem raBoth_eq (t l a b : Int) : spec_raBoth.f t l a b = some (good t l a b) := by
  unfold spec_raBoth.f spec_raGood.f good
  simp only [l1In_eq, Option.bind_some]
  by_cases h1 : 1 ≤ t ∧ t ≤ 30
  · by_cases h2 : 1 ≤ l ∧ l ≤ 5
    · by_cases h3 : 0 ≤ a ∧ a ≤ 100
      · rw [wrap_id (i := 100 - a) (by omega) (by omega)]
        simp [h1, h2, h3]
      · simp [h1, h2, h3]
    · simp [h1, h2]
  · simp [h1]
theorem areScores_eq (t l a b : Int) : impl_areScores.f t l a b = some (good t l a b) := by
  unfold impl_areScores.f impl_IsRace.f good
  simp only [within_eq, Option.bind_some]
  by_cases h1 : 1 ≤ t ∧ t ≤ 30
  · by_cases h2 : 1 ≤ l ∧ l ≤ 5
    · by_cases h3 : 0 ≤ a ∧ a ≤ 100
      · by_cases h4 : 0 ≤ b ∧ b ≤ 100
        · rw [wrap_id (i := a + b) (by omega) (by omega)]
          simp only [h1, h2, h3, h4, and_self, decide_true, if_true, true_and, Option.bind_some]
          congr 1
          rw [decide_eq_decide]
          omega
        · simp only [h1, h2, h3, h4, and_self, decide_true, if_true, true_and, decide_false, Bool.false_eq_true, if_false, Option.bind_some]
          congr 1
          symm
          rw [decide_eq_false_iff_not]
          omega
      · simp [h1, h2, h3]
    · simp [h1, h2]
  · simp [h1]
theorem raTo_ev (t l : Int) (a b : Nat) (ha : a ≤ 100) (hb : b ≤ 100) : Ev (fun k => spec_raTo.f k t l (a : Int) (b : Int)) (A t l a b) := by
  unfold spec_raTo.f
  refine Ev.bind (raWays_ev (t := t) (l := l) ha hb) ?_
  have hr : rd_L1 (mat (a + 1) (b + 1) (A t l)) (a : Int) = (List.range (b + 1)).map (A t l a) := rdr' _ (by omega)
  rw [if_pos (by omega), if_pos (by rw [mat_len]; omega), if_pos (by omega), hr, if_pos (by rw [List.length_map, List.length_range]; omega), rdc _ (by omega)]
  exact Ev.now _
theorem Bk_00 (t l : Int) (a b : Nat) : Bk C0 t l a b 0 0 = A t l a b := by
  unfold Bk A
  rw [show ((0 : Nat) : Int) = 0 from rfl, Fw_Bw]
theorem rd00 (C t l : Int) (a b : Nat) : rd (rd_L1 (mat (a + 2) (b + 2) (Bk C t l a b)) 0) 0 = Bk C t l a b 0 0 := by
  have hr : rd_L1 (mat (a + 2) (b + 2) (Bk C t l a b)) ((0 : Nat) : Int) = (List.range (b + 2)).map (Bk C t l a b 0) := rdr' _ (by omega)
  have h2 : rd ((List.range (b + 2)).map (Bk C t l a b 0)) ((0 : Nat) : Int) = Bk C t l a b 0 0 := rdc _ (by omega)
  rw [← hr] at h2
  exact h2
theorem rd00_l1 (C t l : Int) (a b : Nat) : (0 : Int) < ((mat (a + 2) (b + 2) (Bk C t l a b)).length : Int) := by rw [mat_len]; omega
theorem rd00_l2 (C t l : Int) (a b : Nat) : (0 : Int) < ((rd_L1 (mat (a + 2) (b + 2) (Bk C t l a b)) 0).length : Int) := by
  have hr : rd_L1 (mat (a + 2) (b + 2) (Bk C t l a b)) ((0 : Nat) : Int) = (List.range (b + 2)).map (Bk C t l a b 0) := rdr' _ (by omega)
  rw [show (0 : Int) = ((0 : Nat) : Int) from rfl, hr, List.length_map, List.length_range]
  omega
theorem ways00 (t l : Int) (a b : Nat) (ha : a ≤ 100) (hb : b ≤ 100) : Ev (fun k => impl_Race_waysBetween.f k t l (a : Int) (b : Int) 1000000000000001) (mat (a + 2) (b + 2) (Bk C0 t l a b)) := by
  rw [C0_is]
  have h1 := C0_lo
  have h2 := C0_hi
  exact waysBetween_ev ha hb (by omega) (by omega)

open Go.Proofs.Ytjidebaganmeoaa.BackP (Dk Dk_le Dk_out Dk_end Dk_open Dk_shut raBack_ev)
theorem Bk_Dk (t l : Int) (a b i j : Nat) : Bk C0 t l a b i j = Dk t l a b i j := rfl
attribute [local irreducible] Dk A Bk
theorem len_ok {xs : List Int} (c : Int) {m : Nat} (h : xs.length + 1 ≤ m) : (xs ++ [c]).length ≤ m := by rw [List.length_append]; exact h
theorem size_ok {m n : Nat} (e : m = n) (h : n ≤ 300) : m + 1 ≤ 9223372036854775807 := by omega
theorem wrap_succ (x : Nat) (h : x ≤ 1000) : wrap64 ((x : Int) + 1) = ((x + 1 : Nat) : Int) := by rw [wrap_id (by omega) (by omega)]; omega
theorem wrap_sub' {n q c : Int} (h0 : 0 ≤ n) (h1 : n ≤ c) (h2 : 0 ≤ q) (h3 : q ≤ c) (h4 : c ≤ 4000000000000000) : wrap64 (n - q) = n - q := wrap_id (by omega) (by omega)
theorem str_snoc97 (xs : List Int) : strOfNums xs ++ (⟨#[97]⟩ : ByteArray) = strOfNums (xs ++ [97]) := by
  apply ByteArray.ext
  simp [strOfNums]
theorem str_snoc98 (xs : List Int) : strOfNums xs ++ (⟨#[98]⟩ : ByteArray) = strOfNums (xs ++ [98]) := by
  apply ByteArray.ext
  simp [strOfNums]
def path (t l : Int) (a b : Nat) : Nat → Nat → Nat → Int → List Int
  | 0, _, _, _ => []
  | d + 1, x, y, n => if n < Dk t l a b (x + 1) y then 97 :: path t l a b d (x + 1) y n else 98 :: path t l a b d x (y + 1) (n - Dk t l a b (x + 1) y)
section
variable {t l : Int} {a b : Nat} (ha : a ≤ 100) (hb : b ≤ 100)
include ha hb
theorem path_inv {x y : Nat} (hx : x ≤ a) (hy : y ≤ b) (h : ¬ (x = a ∧ y = b)) {n : Int} (h0 : 0 ≤ n) (h1 : n < Dk t l a b x y) :
    (n < Dk t l a b (x + 1) y → x + 1 ≤ a) ∧ (¬ n < Dk t l a b (x + 1) y → y + 1 ≤ b ∧ 0 ≤ n - Dk t l a b (x + 1) y ∧ n - Dk t l a b (x + 1) y < Dk t l a b x (y + 1)) := by
  have ho : opn t l x y = true := by
    cases ho : opn t l x y
    · have := Dk_shut ha hb hx hy h ho
      omega
    · rfl
  have hs := Dk_open ha hb hx hy h ho
  have hle : Dk t l a b x y ≤ Dk t l a b (x + 1) y + Dk t l a b x (y + 1) := by
    rw [hs]
    split <;> omega
  refine ⟨fun h2 => ?_, fun h2 => ⟨?_, by omega, by omega⟩⟩
  · by_cases h3 : x + 1 ≤ a
    · exact h3
    · have := Dk_out (t := t) (l := l) ha hb (x + 1) y (by omega)
      omega
  · by_cases h3 : y + 1 ≤ b
    · exact h3
    · have := Dk_out (t := t) (l := l) ha hb x (y + 1) (by omega)
      omega
theorem raRank_l0 (d : Nat) : ∀ (x y : Nat) (n : Int) (xs : List Int), x + y + d = a + b → x ≤ a → y ≤ b → 0 ≤ n → n < Dk t l a b x y → xs.length ≤ x + y →
    Ev (fun k => spec_raRank.l0 k a b n (mat (a + 1) (b + 1) (Dk t l a b)) (strOfNums xs) x y) (strOfNums (xs ++ path t l a b d x y n)) := by
  induction d with
  | zero =>
    intro x y n xs hd hx hy h0 h1 hl
    have e1 : ¬ (x : Int) < (a : Int) := by omega
    have e2 : ¬ (y : Int) < (b : Int) := by omega
    refine Ev.step (f := fun k => spec_raRank.j1 k a b n (mat (a + 1) (b + 1) (Dk t l a b)) (strOfNums xs) x y false) (fun k => ?_) (ev_some fun k => ?_)
    · simp only [spec_raRank.l0]
      rw [if_neg e1]
      simp only [e2, decide_false]
    · simp only [spec_raRank.j1]
      rw [if_neg (by decide), path, List.append_nil]
  | succ d ih =>
    intro x y n xs hd hx hy h0 h1 hl
    have hne : ¬ (x = a ∧ y = b) := by omega
    have k1 : x + 1 + y + d = a + b := by omega
    have k2 : x + (y + 1) + d = a + b := by omega
    have k3 : xs.length + 1 ≤ x + 1 + y := by omega
    have k4 : xs.length + 1 ≤ x + (y + 1) := by omega
    have hwx1 : wrap64 ((x : Int) + 1) = ((x + 1 : Nat) : Int) := wrap_succ x (by omega)
    have hwy1 : wrap64 ((y : Int) + 1) = ((y + 1 : Nat) : Int) := wrap_succ y (by omega)
    have hsz0 : xs.length ≤ 300 := by omega
    have hsz : (strOfNums xs).size + 1 ≤ 9223372036854775807 := size_ok (strOfNums_size xs) hsz0
    have m1 : x < a → x + 1 < a + 1 := by omega
    have m2 : y < b + 1 := by omega
    have m3 : x < a → x + 1 ≤ a := by omega
    have m4 : ¬ x < a → a < x + 1 := by omega
    have m5 : x < a → (x : Int) < (a : Int) := by omega
    have m6 : ¬ x < a → ¬ (x : Int) < (a : Int) := by omega
    have m7 : ¬ x < a → (y : Int) < (b : Int) := by omega
    have q1 : (0 : Int) ≤ ((x + 1 : Nat) : Int) := by omega
    have q3 : (0 : Int) ≤ (y : Int) := by omega
    have m8 : (y : Int) < ((b + 1 : Nat) : Int) := by omega
    have m9 : x < a → ((x + 1 : Nat) : Int) < ((a + 1 : Nat) : Int) := by omega
    have l1 : (xs ++ [97]).length ≤ x + 1 + y := len_ok 97 k3
    have l2 : (xs ++ [98]).length ≤ x + (y + 1) := len_ok 98 k4
    obtain ⟨g1, g2⟩ := path_inv (t := t) (l := l) ha hb hx hy hne h0 h1
    have b0 := Dk_le (t := t) (l := l) ha hb x y
    have b1 := Dk_le (t := t) (l := l) ha hb (x + 1) y
    have hsub : wrap64 (n - Dk t l a b (x + 1) y) = n - Dk t l a b (x + 1) y := wrap_sub' h0 (Int.le_trans (Int.le_of_lt h1) b0.2) b1.1 b1.2 C0_hi
    refine Ev.step (f := fun k => spec_raRank.j1 k a b n (mat (a + 1) (b + 1) (Dk t l a b)) (strOfNums xs) x y true) (fun k => ?_) ?_
    · simp only [spec_raRank.l0]
      by_cases hxa : x < a
      · rw [if_pos (m5 hxa)]
      · rw [if_neg (m6 hxa)]
        simp only [m7 hxa, decide_true]
    · rw [path]
      by_cases hxa : x < a
      · have hr : rd_L1 (mat (a + 1) (b + 1) (Dk t l a b)) ((x + 1 : Nat) : Int) = (List.range (b + 1)).map (Dk t l a b (x + 1)) := rdr' _ (m1 hxa)
        have q2 : ((x + 1 : Nat) : Int) < ((mat (a + 1) (b + 1) (Dk t l a b)).length : Int) := by rw [mat_len]; exact m9 hxa
        have q4 : (y : Int) < ((rd_L1 (mat (a + 1) (b + 1) (Dk t l a b)) ((x + 1 : Nat) : Int)).length : Int) := by rw [hr, List.length_map, List.length_range]; exact m8
        have hv : rd (rd_L1 (mat (a + 1) (b + 1) (Dk t l a b)) ((x + 1 : Nat) : Int)) (y : Int) = Dk t l a b (x + 1) y := by rw [hr, rdc _ m2]
        by_cases hn : n < Dk t l a b (x + 1) y
        · rw [if_pos hn]
          have := ih (x + 1) y n (xs ++ [97]) k1 (m3 hxa) hy h0 hn l1
          rw [List.append_assoc, List.singleton_append] at this
          refine Ev.step (fun k => ?_) this
          simp only [spec_raRank.j1]
          rw [if_pos (by first | rfl | trivial), if_pos (m5 hxa), hwx1, if_pos q1, if_pos q2, if_pos q3, if_pos q4, hv, if_pos hn, if_pos hsz, str_snoc97]
        · rw [if_neg hn]
          obtain ⟨g3, g4, g5⟩ := g2 hn
          have := ih x (y + 1) (n - Dk t l a b (x + 1) y) (xs ++ [98]) k2 hx g3 g4 g5 l2
          rw [List.append_assoc, List.singleton_append] at this
          refine Ev.step (fun k => ?_) this
          simp only [spec_raRank.j1]
          rw [if_pos (by first | rfl | trivial), if_pos (m5 hxa), hwx1, if_pos q1, if_pos q2, if_pos q3, if_pos q4, hv, if_neg hn, if_pos hsz, hsub, hwy1, str_snoc98]
      · have hz : Dk t l a b (x + 1) y = 0 := Dk_out ha hb _ _ (Or.inl (m4 hxa))
        have hn0 : ¬ n < 0 := Int.not_lt.mpr h0
        have hn : ¬ n < Dk t l a b (x + 1) y := by rw [hz]; exact hn0
        rw [if_neg hn]
        obtain ⟨g3, g4, g5⟩ := g2 hn
        have := ih x (y + 1) (n - Dk t l a b (x + 1) y) (xs ++ [98]) k2 hx g3 g4 g5 l2
        rw [List.append_assoc, List.singleton_append] at this
        refine Ev.step (fun k => ?_) this
        simp only [spec_raRank.j1]
        rw [hz] at hsub
        rw [if_pos (by first | rfl | trivial), if_neg (m6 hxa), if_neg hn0, if_pos hsz, hwy1, str_snoc98, hz, hsub]
theorem ranked_l0 (d : Nat) : ∀ (x y : Nat) (n : Int) (xs : List Int), x + y + d = a + b → x ≤ a → y ≤ b → 0 ≤ n → n < Dk t l a b x y → xs.length ≤ x + y →
    Ev (fun k => impl_Race_ranked.l0 k a b n (mat (a + 2) (b + 2) (Bk C0 t l a b)) xs x y) (strOfNums (xs ++ path t l a b d x y n), true) := by
  induction d with
  | zero =>
    intro x y n xs hd hx hy h0 h1 hl
    have e1 : (x : Int) = (a : Int) := by omega
    have e3 : y = b := by omega
    have e2 : ((y : Int) != (b : Int)) = false := by rw [e3]; simp
    refine Ev.step (f := fun k => impl_Race_ranked.j1 k a b n (mat (a + 2) (b + 2) (Bk C0 t l a b)) xs x y false) (fun k => ?_) (ev_some fun k => ?_)
    · simp only [impl_Race_ranked.l0]
      rw [if_pos e1, e2]
    · simp only [impl_Race_ranked.j1]
      rw [if_neg (by decide), path, List.append_nil]
  | succ d ih =>
    intro x y n xs hd hx hy h0 h1 hl
    have hne : ¬ (x = a ∧ y = b) := by omega
    have k1 : x + 1 + y + d = a + b := by omega
    have k2 : x + (y + 1) + d = a + b := by omega
    have k3 : xs.length + 1 ≤ x + 1 + y := by omega
    have k4 : xs.length + 1 ≤ x + (y + 1) := by omega
    have hwx1 : wrap64 ((x : Int) + 1) = ((x + 1 : Nat) : Int) := wrap_succ x (by omega)
    have hwy1 : wrap64 ((y : Int) + 1) = ((y + 1 : Nat) : Int) := wrap_succ y (by omega)
    have hsz : xs.length < 140737488355328 := by omega
    have m1 : x + 1 < a + 2 := by omega
    have m2 : y < b + 2 := by omega
    have m4 : x = a → ¬ y = b := by omega
    have m5 : x = a → (x : Int) = (a : Int) := by omega
    have m6 : ¬ x = a → ¬ (x : Int) = (a : Int) := by omega
    have m7 : ¬ y = b → ¬ (y : Int) = (b : Int) := by omega
    have q1 : (0 : Int) ≤ ((x + 1 : Nat) : Int) := by omega
    have q3 : (0 : Int) ≤ (y : Int) := by omega
    have m8 : (y : Int) < ((b + 2 : Nat) : Int) := by omega
    have m9 : ((x + 1 : Nat) : Int) < ((a + 2 : Nat) : Int) := by omega
    have l1 : (xs ++ [97]).length ≤ x + 1 + y := len_ok 97 k3
    have l2 : (xs ++ [98]).length ≤ x + (y + 1) := len_ok 98 k4
    obtain ⟨g1, g2⟩ := path_inv (t := t) (l := l) ha hb hx hy hne h0 h1
    have b0 := Dk_le (t := t) (l := l) ha hb x y
    have b1 := Dk_le (t := t) (l := l) ha hb (x + 1) y
    have hsub : wrap64 (n - Dk t l a b (x + 1) y) = n - Dk t l a b (x + 1) y := wrap_sub' h0 (Int.le_trans (Int.le_of_lt h1) b0.2) b1.1 b1.2 C0_hi
    have hr : rd_L1 (mat (a + 2) (b + 2) (Bk C0 t l a b)) ((x + 1 : Nat) : Int) = (List.range (b + 2)).map (Bk C0 t l a b (x + 1)) := rdr' _ m1
    have q2 : ((x + 1 : Nat) : Int) < ((mat (a + 2) (b + 2) (Bk C0 t l a b)).length : Int) := by rw [mat_len]; exact m9
    have q4 : (y : Int) < ((rd_L1 (mat (a + 2) (b + 2) (Bk C0 t l a b)) ((x + 1 : Nat) : Int)).length : Int) := by rw [hr, List.length_map, List.length_range]; exact m8
    have hv : rd (rd_L1 (mat (a + 2) (b + 2) (Bk C0 t l a b)) ((x + 1 : Nat) : Int)) (y : Int) = Dk t l a b (x + 1) y := by rw [hr, rdc _ m2]; exact Bk_Dk t l a b (x + 1) y
    refine Ev.step (f := fun k => impl_Race_ranked.j1 k a b n (mat (a + 2) (b + 2) (Bk C0 t l a b)) xs x y true) (fun k => ?_) ?_
    · simp only [impl_Race_ranked.l0]
      by_cases hxa : x = a
      · rw [if_pos (m5 hxa)]
        have hb2 : ((y : Int) != (b : Int)) = true := bne_iff_ne.mpr (m7 (m4 hxa))
        rw [hb2]
      · rw [if_neg (m6 hxa)]
    · rw [path]
      by_cases hn : n < Dk t l a b (x + 1) y
      · rw [if_pos hn]
        have := ih (x + 1) y n (xs ++ [97]) k1 (g1 hn) hy h0 hn l1
        rw [List.append_assoc, List.singleton_append] at this
        refine Ev.step (fun k => ?_) this
        simp only [impl_Race_ranked.j1]
        rw [if_pos (by first | rfl | trivial), hwx1, if_pos q1, if_pos q2, if_pos q3, if_pos q4, hv, if_pos hn, if_pos hsz]
      · rw [if_neg hn]
        obtain ⟨g3, g4, g5⟩ := g2 hn
        have := ih x (y + 1) (n - Dk t l a b (x + 1) y) (xs ++ [98]) k2 hx g3 g4 g5 l2
        rw [List.append_assoc, List.singleton_append] at this
        refine Ev.step (fun k => ?_) this
        simp only [impl_Race_ranked.j1]
        rw [if_pos (by first | rfl | trivial), hwx1, if_pos q1, if_pos q2, if_pos q3, if_pos q4, hv, if_neg hn, if_pos hsz, hsub, hwy1]
theorem Dk_A : Dk t l a b 0 0 = A t l a b := by
  rw [← Bk_Dk, Bk_00]
theorem raRank_ev (n : Int) (h0 : 0 ≤ n) (h1 : n < A t l a b) : Ev (fun k => spec_raRank.f k t l a b n) (strOfNums (path t l a b (a + b) 0 0 n)) := by
  unfold spec_raRank.f
  refine Ev.bind (raBack_ev (t := t) (l := l) ha hb) ?_
  exact raRank_l0 ha hb (a + b) 0 0 n [] (by omega) (by omega) (by omega) h0 (by rw [Dk_A ha hb]; exact h1) (by simp)
theorem ranked_ev (n : Int) (h0 : 0 ≤ n) (h1 : n < A t l a b) : Ev (fun k => impl_Race_ranked.f k t l a b n) (strOfNums (path t l a b (a + b) 0 0 n), true) := by
  unfold impl_Race_ranked.f
  refine Ev.bind (ways00 t l a b ha hb) ?_
  refine Ev.congr (fun k => ?_) (ranked_l0 (t := t) (l := l) ha hb (a + b) 0 0 n [] (by omega) (by omega) (by omega) h0 (by rw [Dk_A ha hb]; exact h1) (by simp))
  rw [if_pos (rd00_l1 C0 t l a b), if_pos (rd00_l2 C0 t l a b), rd00, Bk_00, if_neg (by omega)]
  rfl
theorem ranked_no (n : Int) (h1 : A t l a b ≤ n) : Ev (fun k => impl_Race_ranked.f k t l a b n) ((⟨#[]⟩ : ByteArray), false) := by
  unfold impl_Race_ranked.f
  refine Ev.bind (ways00 t l a b ha hb) ?_
  refine Ev.congr (fun k => ?_) (Ev.now _)
  rw [if_pos (rd00_l1 C0 t l a b), if_pos (rd00_l2 C0 t l a b), rd00, Bk_00, if_pos (by omega)]
end

theorem FnExactPlayOfRank : ∀ (a0_0 : Int) (a0_1 : Int) (a1 : Int) (a2 : Int) (a3 : Int), (Lit.int .i64 a0_0).wf = true → (Lit.int .i64 a0_1).wf = true → (Lit.int .i64 a1).wf = true → (Lit.int .i64 a2).wf = true → (Lit.int .i64 a3).wf = true → ∃ k, laws_FnExactPlayOfRank.f k a0_0 a0_1 a1 a2 a3 = some true := by
  intro t l a b n _ _ _ _ _
  refine Ev.rounds ?_
  unfold laws_FnExactPlayOfRank.f
  simp only [laws_toRace.f, Option.bind_some]
  have both : ∃ v, Ev (fun k => spec_PlayOfRank.f k t l a b n) v ∧ Ev (fun k => impl_PlayOfRank.f k t l a b n) v := by
    unfold spec_PlayOfRank.f impl_PlayOfRank.f impl_CountPlaysTo.f
    simp only [raBoth_eq, areScores_eq, Option.bind_some]
    cases hg : good t l a b
    · refine ⟨((⟨#[]⟩ : ByteArray), false), ?_, ?_⟩
      · simp only [Bool.false_eq_true, if_false]
        exact Ev.now _
      · simp only [Bool.false_eq_true, if_false, Option.bind_some]
        exact Ev.now _
    · have hg2 : (1 ≤ t ∧ t ≤ 30) ∧ (1 ≤ l ∧ l ≤ 5) ∧ (0 ≤ a ∧ a ≤ 100) ∧ (0 ≤ b ∧ b ≤ 100 - a) := by
        unfold good at hg
        exact of_decide_eq_true hg
      obtain ⟨x, rfl⟩ : ∃ x : Nat, a = (x : Int) := ⟨a.toNat, by omega⟩
      obtain ⟨y, rfl⟩ : ∃ y : Nat, b = (y : Int) := ⟨b.toNat, by omega⟩
      have hx : x ≤ 100 := by omega
      have hy : y ≤ 100 := by omega
      have hA := A_le t l x y
      have hC := C0_hi
      simp only [if_true]
      have hcount : Ev (fun k => (impl_Race_waysBetween.f k t l (x : Int) (y : Int) 1000000000000001).bind fun t163 => (if 0 < (t163.length : Int) then (if 0 < ((rd_L1 t163 0).length : Int) then ((impl_few.f (rd (rd_L1 t163 0) 0) 1000000000000000).bind fun bt168 => (some (bt168.1, bt168.2))) else (none)) else (none))) (if A t l x y > 1000000000000000 then (0, false) else (A t l x y, true)) := by
        refine Ev.bind (ways00 t l x y hx hy) ?_
        rw [if_pos (rd00_l1 C0 t l x y), if_pos (rd00_l2 C0 t l x y), rd00, Bk_00]
        unfold impl_few.f
        split
        · exact Ev.now _
        · exact Ev.now _
      by_cases h0 : A t l x y > 1000000000000000
      · refine ⟨((⟨#[]⟩ : ByteArray), false), ?_, ?_⟩
        · refine Ev.bind (raTo_ev t l x y hx hy) ?_
          simp only [h0, if_true]
          exact Ev.now _
        · rw [if_pos h0] at hcount
          refine Ev.bind hcount ?_
          simp only [Bool.false_eq_true, if_false]
          exact Ev.now _
      · rw [if_neg h0] at hcount
        by_cases h1 : 0 ≤ n ∧ n ≤ A t l x y - 1
        · have hn1 : ¬ n < 0 := by omega
          have hn2 : ¬ n ≥ A t l x y := by omega
          refine ⟨(strOfNums (path t l x y (x + y) 0 0 n), true), ?_, ?_⟩
          · refine Ev.bind (raTo_ev t l x y hx hy) ?_
            simp only [h0, if_false]
            rw [wrap_id (i := A t l x y - 1) (by omega) (by omega), l1In_eq]
            simp only [Option.bind_some, h1, and_self, decide_true, if_true]
            refine Ev.bind (raRank_ev hx hy n h1.1 (by omega)) ?_
            exact Ev.now _
          · refine Ev.bind hcount ?_
            simp only [if_true, hn1, hn2, if_false]
            refine Ev.bind (ranked_ev hx hy n h1.1 (by omega)) ?_
            exact Ev.now _
        · refine ⟨((⟨#[]⟩ : ByteArray), false), ?_, ?_⟩
          · refine Ev.bind (raTo_ev t l x y hx hy) ?_
            simp only [h0, if_false]
            rw [wrap_id (i := A t l x y - 1) (by omega) (by omega), l1In_eq]
            simp only [Option.bind_some, h1, decide_false, Bool.false_eq_true, if_false]
            exact Ev.now _
          · refine Ev.bind hcount ?_
            simp only [if_true]
            by_cases hn1 : n < 0
            · simp only [hn1, if_true]
              exact Ev.now _
            · have hn2 : n ≥ A t l x y := by omega
              simp only [hn1, hn2, if_true, if_false]
              exact Ev.now _
  obtain ⟨v, hs, hi⟩ := both
  refine Ev.bind hs ?_
  refine Ev.bind hi ?_
  simp
  exact Ev.now _

end Go.Proofs.Ytjidebaganmeoaa.Pure
