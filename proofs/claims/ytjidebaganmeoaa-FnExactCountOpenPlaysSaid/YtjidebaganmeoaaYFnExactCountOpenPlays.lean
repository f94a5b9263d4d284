/- What the printed functions of FnExactCountOpenPlays compute answers true, at every argument of its types. No condition beside the types' own bounds. -/
import Derived.Test.YtjidebaganmeoaaGWaysPure
import Derived.Test.YtjidebaganmeoaaQFnExactCountOpenPlaysx
namespace Go.Proofs.Ytjidebaganmeoaa.Pure
open Go.RowKit Go.Proofs.Ytjidebaganmeoaa.QFnExactCountOpenPlays Go.Proofs.YtjidebaganmeoaaW.PrintWords Go.Proofs.YtjidebaganmeoaaW.PrintLast Go.Proofs.YtjidebaganmeoaaW.PrintMore
set_option linter.unusedVariables false
set_option linter.unusedSimpArgs false
set_option linter.unusedSectionVars false

open Go.Proofs.Ytjidebaganmeoaa.WaysP
theorem hasWon_eq (t l x y : Int) (hx : 0 ≤ x) (hx2 : x ≤ 200) (hy : 0 ≤ y) (hy2 : y ≤ 200) : impl_Race_hasWon.f t l x y = some (decide (t ≤ x ∧ l ≤ x - y)) := by
  have e1 : wrap64 (x - y) = x - y := wrap_id (by omega) (by omega)
  unfold impl_Race_hasWon.f
  by_cases c1 : t ≤ x <;> simp [c1, e1]
theorem isOpen_eq (t l x y : Int) (hx : 0 ≤ x) (hx2 : x ≤ 200) (hy : 0 ≤ y) (hy2 : y ≤ 200) : impl_Race_isOpen.f t l x y = some (opn t l x y) := by
  unfold impl_Race_isOpen.f opn won
  rw [hasWon_eq t l x y hx hx2 hy hy2, hasWon_eq t l y x hy hy2 hx hx2]
  by_cases c1 : t ≤ x ∧ l ≤ x - y <;> by_cases c2 : t ≤ y ∧ l ≤ y - x <;> simp [c1, c2]

def Bk (C t l : Int) (a b i j : Nat) : Int := cp C (Bw (opn t l) (a : Int) (b : Int) (i : Int) (j : Int))
def Sb (C t l : Int) (a b : Nat) (x y : Int) (i j : Nat) : Int := if x < (i : Int) ∨ ((i : Int) = x ∧ y < (j : Int)) then Bk C t l a b i j else 0
theorem rdr' {n m : Nat} (f : Nat → Nat → Int) {i : Nat} (h : i < n) : rd_L1 (mat n m f) (i : Int) = (List.range m).map (f i) := by
  unfold rd_L1
  rw [Int.toNat_natCast]
  exact mat_row m f h
def Zr (a b i : Nat) : List (List Int) := (List.range (a + 2)).map fun p => if p < i then List.replicate (b + 2) 0 else []
theorem Zr_set (a b i : Nat) (hi : i < a + 2) : (Zr a b i).set i (List.replicate (b + 2) 0) = Zr a b (i + 1) := by
  apply List.ext_getElem?
  intro p
  by_cases hp : p < a + 2
  · by_cases e : p = i
    · subst e
      rw [List.getElem?_set_self (by simp [Zr]; omega)]
      simp [Zr, hp]
    · rw [List.getElem?_set_ne (fun h => e h.symm)]
      simp only [Zr, List.getElem?_map, List.getElem?_range hp, Option.map_some]
      by_cases h2 : p < i
      · rw [if_pos h2, if_pos (by omega)]
      · rw [if_neg h2, if_neg (by omega)]
  · rw [List.getElem?_eq_none (by simp [Zr]; omega), List.getElem?_eq_none (by simp [Zr]; omega)]
theorem Zr_end (a b : Nat) : Zr a b (a + 2) = mat (a + 2) (b + 2) (fun _ _ => 0) := by
  unfold Zr mat
  apply List.map_congr_left
  intro p hp
  have hp' : p < a + 2 := by simpa using hp
  rw [if_pos hp']
  apply List.ext_getElem?
  intro q
  by_cases hq : q < b + 2
  · simp [hq]
  · rw [List.getElem?_eq_none (by simp; omega), List.getElem?_eq_none (by simp; omega)]
theorem Zr_0 (a b : Nat) : (List.replicate (a + 2) ([] : List Int)) = Zr a b 0 := by
  unfold Zr
  apply List.ext_getElem?
  intro q
  by_cases hq : q < a + 2
  · simp [hq]
  · rw [List.getElem?_eq_none (by simp; omega), List.getElem?_eq_none (by simp; omega)]

section
variable {C t l : Int} {a b : Nat} (ha : a ≤ 100) (hb : b ≤ 100) (hC : 2 ≤ C) (hC2 : C ≤ 2000000000000000000)
include ha hb hC hC2
theorem Bk_le (i j : Nat) : 0 ≤ Bk C t l a b i j ∧ Bk C t l a b i j ≤ C := by
  unfold Bk cp
  split <;> omega
theorem Bk_out (i j : Nat) (h : a < i ∨ b < j) : Bk C t l a b i j = 0 := by
  unfold Bk cp
  rw [Bw_out _ _ _ _ _ (by omega)]
  split <;> simp at * <;> omega
theorem Bk_end : Bk C t l a b a b = 1 := by
  unfold Bk cp
  rw [Bw_end, if_pos (by simp; omega)]
  rfl
theorem Bk_open {x y : Nat} (hx : x ≤ a) (hy : y ≤ b) (h : ¬ (x = a ∧ y = b)) (ho : opn t l x y = true) : Bk C t l a b x y = if C ≤ Bk C t l a b (x + 1) y + Bk C t l a b x (y + 1) then C else Bk C t l a b (x + 1) y + Bk C t l a b x (y + 1) := by
  unfold Bk
  rw [Bw_step _ _ _ _ _ (by omega) (by omega) (by omega), if_pos ho]
  have e1 : ((x + 1 : Nat) : Int) = (x : Int) + 1 := by omega
  have e2 : ((y + 1 : Nat) : Int) = (y : Int) + 1 := by omega
  rw [e1, e2]
  generalize Bw (opn t l) (a : Int) (b : Int) ((x : Int) + 1) y = p
  generalize Bw (opn t l) (a : Int) (b : Int) x ((y : Int) + 1) = q
  unfold cp
  split <;> split <;> split <;> split <;> omega
theorem Bk_shut {x y : Nat} (hx : x ≤ a) (hy : y ≤ b) (h : ¬ (x = a ∧ y = b)) (ho : opn t l x y = false) : Bk C t l a b x y = 0 := by
  unfold Bk cp
  rw [Bw_step _ _ _ _ _ (by omega) (by omega) (by omega), ho]
  simp
  omega
theorem Sb_set {x y : Nat} (hx : x ≤ a) (hy : y ≤ b) (v : Int) (hv : v = Bk C t l a b x y) :
    mat (a + 2) (b + 2) (fun p q => if p = x ∧ q = y then v else Sb C t l a b x y p q) = mat (a + 2) (b + 2) (Sb C t l a b (x : Int) ((y : Int) - 1)) := by
  apply mat_congr
  intro i j hi hj
  unfold Sb
  by_cases e : i = x ∧ j = y
  · obtain ⟨rfl, rfl⟩ := e
    rw [if_pos (by omega), if_pos (by omega), hv]
  · rw [if_neg e]
    by_cases e2 : (x : Int) < i ∨ ((i : Int) = x ∧ (y : Int) < j)
    · rw [if_pos e2, if_pos (by omega)]
    · rw [if_neg e2, if_neg (by omega)]
theorem l2_step {x y : Nat} (hx : x ≤ a) (hy : y ≤ b) (r : List (List Int))
    (h : Ev (fun k => impl_Race_waysBetween.l2 k a b C (mat (a + 2) (b + 2) (Sb C t l a b (x : Int) ((y : Int) - 1))) x ((y : Int) - 1) t l) r) :
    Ev (fun k => impl_Race_waysBetween.l2 k a b C (mat (a + 2) (b + 2) (Sb C t l a b (x : Int) (y : Int))) x y t l) r := by
  have hml : ((mat (a + 2) (b + 2) (Sb C t l a b (x : Int) (y : Int))).length : Int) = (a : Int) + 2 := by rw [mat_len]; omega
  have hr : rd_L1 (mat (a + 2) (b + 2) (Sb C t l a b (x : Int) (y : Int))) (x : Int) = (List.range (b + 2)).map (Sb C t l a b (x : Int) (y : Int) x) := rdr' _ (by omega)
  have hrl : ((rd_L1 (mat (a + 2) (b + 2) (Sb C t l a b (x : Int) (y : Int))) (x : Int)).length : Int) = (b : Int) + 2 := by rw [hr]; simp
  have hr1 : rd_L1 (mat (a + 2) (b + 2) (Sb C t l a b (x : Int) (y : Int))) ((x + 1 : Nat) : Int) = (List.range (b + 2)).map (Sb C t l a b (x : Int) (y : Int) (x + 1)) := rdr' _ (by omega)
  have hrl1 : ∀ z : Unit, ((rd_L1 (mat (a + 2) (b + 2) (Sb C t l a b (x : Int) (y : Int))) ((x + 1 : Nat) : Int)).length : Int) = (b : Int) + 2 := fun _ => by rw [hr1]; simp
  have hwy : wrap64 ((y : Int) - 1) = (y : Int) - 1 := wrap_id (by omega) (by omega)
  have hwx1 : wrap64 ((x : Int) + 1) = ((x + 1 : Nat) : Int) := by rw [wrap_id (by omega) (by omega)]; omega
  have hwy1 : wrap64 ((y : Int) + 1) = ((y + 1 : Nat) : Int) := by rw [wrap_id (by omega) (by omega)]; omega
  have hset : ∀ v : Int, (mat (a + 2) (b + 2) (Sb C t l a b (x : Int) (y : Int))).set (x : Int).toNat ((rd_L1 (mat (a + 2) (b + 2) (Sb C t l a b (x : Int) (y : Int))) (x : Int)).set (y : Int).toNat v) = mat (a + 2) (b + 2) (fun p q => if p = x ∧ q = y then v else Sb C t l a b (x : Int) (y : Int) p q) := by
    intro v
    rw [hr, Int.toNat_natCast, Int.toNat_natCast]
    exact mat_set (n := a + 2) (m := b + 2) (Sb C t l a b (x : Int) (y : Int)) (i := x) (j := y) (by omega) (by omega) v
  refine Ev.step (f := fun k => impl_Race_waysBetween.j3 k a b C (mat (a + 2) (b + 2) (Sb C t l a b (x : Int) (y : Int))) x y (decide (x = a ∧ y = b)) t l) (fun k => ?_) ?_
  · simp only [impl_Race_waysBetween.l2]
    rw [if_pos (by omega)]
    by_cases hxa : x = a
    · rw [if_pos (by omega)]
      congr 1
      by_cases hyb : y = b
      · simp [hxa, hyb]
      · have : ((y : Int) == (b : Int)) = false := by simp; omega
        rw [this]
        simp [hyb]
    · rw [if_neg (by omega)]
      simp [hxa]
  · by_cases he : x = a ∧ y = b
    · refine Ev.step (fun k => ?_) h
      simp only [impl_Race_waysBetween.j3]
      rw [if_pos (by simp [he]), if_pos (by omega), if_pos (by omega), if_pos (by omega), if_pos (by omega), hset, hwy, Sb_set ha hb hC hC2 hx hy 1 (by rw [he.1, he.2]; exact (Bk_end ha hb hC hC2).symm)]
    · have hop := isOpen_eq t l (x : Int) (y : Int) (by omega) (by omega) (by omega) (by omega)
      by_cases ho : opn t l x y = true
      · have hv1 : rd (rd_L1 (mat (a + 2) (b + 2) (Sb C t l a b (x : Int) (y : Int))) ((x + 1 : Nat) : Int)) (y : Int) = Bk C t l a b (x + 1) y := by
          rw [hr1, rdc _ (by omega)]
          unfold Sb
          rw [if_pos (by omega)]
        have hv2 : rd (rd_L1 (mat (a + 2) (b + 2) (Sb C t l a b (x : Int) (y : Int))) (x : Int)) ((y + 1 : Nat) : Int) = Bk C t l a b x (y + 1) := by
          rw [hr, rdc _ (by omega)]
          unfold Sb
          rw [if_pos (by omega)]
        have b1 := Bk_le (t := t) (l := l) ha hb hC hC2 (x + 1) y
        have b2 := Bk_le (t := t) (l := l) ha hb hC hC2 x (y + 1)
        have hsum : ∀ p q : Int, 0 ≤ p → p ≤ C → 0 ≤ q → q ≤ C → wrap64 (p + q) = p + q := fun p q h1 h2 h3 h4 => wrap_id (by omega) (by omega)
        have hmn : ∀ p : Int, mn p C = if C ≤ p then C else p := by
          intro p
          unfold mn
          split <;> split <;> omega
        refine Ev.step (fun k => ?_) h
        simp only [impl_Race_waysBetween.j3]
        rw [if_neg (by simpa using he), hop, Option.bind_some, if_pos ho, if_pos (by omega), if_pos (by omega), hwx1, if_pos (by omega), if_pos (by omega), if_pos (by omega), if_pos (by rw [hrl1 ()]; omega), hwy1, if_pos (by omega), if_pos (by omega), if_pos (by omega), hset, hwy, hv1, hv2, hsum _ _ b1.1 b1.2 b2.1 b2.2, hmn, Sb_set ha hb hC hC2 hx hy _ (Bk_open ha hb hC hC2 hx hy he ho).symm]
      · have ho' : opn t l x y = false := by simpa using ho
        have hS : mat (a + 2) (b + 2) (Sb C t l a b (x : Int) (y : Int)) = mat (a + 2) (b + 2) (Sb C t l a b (x : Int) ((y : Int) - 1)) := by
          rw [← Sb_set ha hb hC hC2 hx hy 0 (Bk_shut ha hb hC hC2 hx hy he ho').symm]
          apply mat_congr
          intro i j hi hj
          by_cases e : i = x ∧ j = y
          · rw [if_pos e]
            unfold Sb
            rw [if_neg (by omega)]
          · rw [if_neg e]
        refine Ev.step (fun k => ?_) h
        simp only [impl_Race_waysBetween.j3]
        rw [if_neg (by simpa using he), hop, Option.bind_some, if_neg ho, hwy, hS]
theorem l2_ev {x : Nat} (hx : x ≤ a) (r : List (List Int)) (h : Ev (fun k => impl_Race_waysBetween.l1 k a b C (mat (a + 2) (b + 2) (Sb C t l a b ((x : Int) - 1) (b : Int))) ((x : Int) - 1) t l) r) (d : Nat) : ∀ y : Int, y + 1 = d → y ≤ b →
    Ev (fun k => impl_Race_waysBetween.l2 k a b C (mat (a + 2) (b + 2) (Sb C t l a b (x : Int) y)) x y t l) r := by
  induction d with
  | zero =>
    intro y hy _
    refine Ev.step (fun k => ?_) h
    simp only [impl_Race_waysBetween.l2]
    rw [if_neg (by omega), wrap_id (by omega) (by omega)]
    congr 1
    apply mat_congr
    intro i j hi hj
    unfold Sb
    by_cases e : (x : Int) - 1 < i ∨ ((i : Int) = (x : Int) - 1 ∧ (b : Int) < j)
    · rw [if_pos e]
      by_cases e2 : (x : Int) < i ∨ ((i : Int) = x ∧ y < j)
      · rw [if_pos e2]
      · rw [if_neg e2, Bk_out ha hb hC hC2 _ _ (by omega)]
    · rw [if_neg e, if_neg (by omega)]
  | succ d ih =>
    intro y hy hyb
    obtain ⟨n, rfl⟩ : ∃ n : Nat, y = (n : Int) := ⟨y.toNat, by omega⟩
    exact l2_step ha hb hC hC2 hx (by omega) r (ih ((n : Int) - 1) (by omega) (by omega))
theorem l1_ev' (d : Nat) : ∀ x : Int, x + 1 = d → x ≤ a → Ev (fun k => impl_Race_waysBetween.l1 k a b C (mat (a + 2) (b + 2) (Sb C t l a b x (b : Int))) x t l) (mat (a + 2) (b + 2) (Bk C t l a b)) := by
  induction d with
  | zero =>
    intro x hx _
    refine ev_some fun k => ?_
    simp only [impl_Race_waysBetween.l1]
    rw [if_neg (by omega)]
    congr 1
    apply mat_congr
    intro i j hi hj
    unfold Sb
    rw [if_pos (by omega)]
  | succ d ih =>
    intro x hx hxa
    obtain ⟨n, rfl⟩ : ∃ n : Nat, x = (n : Int) := ⟨x.toNat, by omega⟩
    refine Ev.step (fun k => ?_) (l2_ev ha hb hC hC2 (by omega) _ (ih ((n : Int) - 1) (by omega) (by omega)) (b + 1) (b : Int) (by omega) (by omega))
    simp only [impl_Race_waysBetween.l1]
    rw [if_pos (by omega)]
theorem l0_ev' (d : Nat) : ∀ i : Nat, i + d = a + 2 → Ev (fun k => impl_Race_waysBetween.l0 k a b C (Zr a b i) ((a + 2 : Nat) : Int) (i : Int) t l) (mat (a + 2) (b + 2) (Bk C t l a b)) := by
  induction d with
  | zero =>
    intro i hi
    refine Ev.step (fun k => ?_) (l1_ev' ha hb hC hC2 (a + 1) (a : Int) (by omega) (by omega))
    simp only [impl_Race_waysBetween.l0]
    rw [if_neg (by omega), show i = a + 2 by omega, Zr_end]
    congr 1
    apply mat_congr
    intro p q hp hq
    unfold Sb
    by_cases e : (a : Int) < p ∨ ((p : Int) = a ∧ (b : Int) < q)
    · rw [if_pos e, Bk_out ha hb hC hC2 _ _ (by omega)]
    · rw [if_neg e]
  | succ d ih =>
    intro i hi
    have hw : wrap64 ((b : Int) + 2) = ((b + 2 : Nat) : Int) := by rw [wrap_id (by omega) (by omega)]; omega
    refine Ev.step (fun k => ?_) (ih (i + 1) (by omega))
    simp only [impl_Race_waysBetween.l0]
    rw [if_pos (by omega), hw, if_pos (by omega), Int.toNat_natCast, if_pos (by omega), if_pos (by omega), if_pos (by simp [Zr]; omega), Int.toNat_natCast, Zr_set a b i (by omega), wrap_id (by omega) (by omega)]
    rfl
theorem waysBetween_ev : Ev (fun k => impl_Race_waysBetween.f k t l a b C) (mat (a + 2) (b + 2) (Bk C t l a b)) := by
  have hw : wrap64 ((a : Int) + 2) = ((a + 2 : Nat) : Int) := by rw [wrap_id (by omega) (by omega)]; omega
  refine Ev.congr (fun k => ?_) (l0_ev' ha hb hC hC2 (a + 2) 0 (by omega))
  unfold impl_Race_waysBetween.f
  rw [hw, if_pos (by omega), if_pos (by omega), Int.toNat_natCast, Option.bind_some, Zr_0 a b, show ((Zr a b 0).length : Int) = ((a + 2 : Nat) : Int) by simp [Zr]]
  rfl
end

theorem raWon_q (t l x y : Int) (hx : 0 ≤ x) (hx2 : x ≤ 200) (hy : 0 ≤ y) (hy2 : y ≤ 200) : Ev (fun k => spec_raWon.f k t l x y) (won t l x y) := by
  have e1 : wrap64 (x - y) = x - y := wrap_id (by omega) (by omega)
  have e2 : wrap64 (y - x) = y - x := wrap_id (by omega) (by omega)
  unfold spec_raWon.f won
  by_cases c1 : t ≤ x <;> by_cases c2 : l ≤ x - y <;> by_cases c3 : t ≤ y <;> by_cases c4 : l ≤ y - x <;>
    (simp only [ge_iff_le, c1, c2, c3, c4, e1, e2, if_true, if_false, true_and, and_true, false_and, and_false, decide_true, decide_false]
     refine ev_some fun k => ?_
     simp [spec_raWon.j0, c1, c2, c3, c4, e1, e2])

theorem l1In_eq (a b c : Int) : spec_l1In.f a b c = some (decide (b ≤ a ∧ a ≤ c)) := by
  unfold spec_l1In.f
  by_cases h : a ≥ b
  · rw [if_pos h]
    have h2 : b ≤ a := h
    simp [h2]
  · rw [if_neg h]
    have h2 : ¬ b ≤ a := h
    simp [h2]
theorem within_eq (a b c : Int) : impl_within.f a b c = some (decide (b ≤ a ∧ a ≤ c)) := by
  unfold impl_within.f
  by_cases h : b ≤ a
  · rw [if_pos h]
    simp [h]
  · rw [if_neg h]
    simp [h]
theorem rd00 (C t l : Int) (a b : Nat) : rd (rd_L1 (mat (a + 2) (b + 2) (Bk C t l a b)) 0) 0 = Bk C t l a b 0 0 := by
  have hr : rd_L1 (mat (a + 2) (b + 2) (Bk C t l a b)) ((0 : Nat) : Int) = (List.range (b + 2)).map (Bk C t l a b 0) := rdr' _ (by omega)
  have h2 : rd ((List.range (b + 2)).map (Bk C t l a b 0)) ((0 : Nat) : Int) = Bk C t l a b 0 0 := rdc _ (by omega)
  rw [← hr] at h2
  exact h2
theorem rd00_l1 (C t l : Int) (a b : Nat) : (0 : Int) < ((mat (a + 2) (b + 2) (Bk C t l a b)).length : Int) := by rw [mat_len]; omega
theorem rd00_l2 (C t l : Int) (a b : Nat) : (0 : Int) < ((rd_L1 (mat (a + 2) (b + 2) (Bk C t l a b)) 0).length : Int) := by
  have hr : rd_L1 (mat (a + 2) (b + 2) (Bk C t l a b)) ((0 : Nat) : Int) = (List.range (b + 2)).map (Bk C t l a b 0) := rdr' _ (by omega)
  rw [show (0 : Int) = ((0 : Nat) : Int) from rfl, hr, List.length_map, List.length_range]
  omega

def val (t l : Int) (n x : Nat) : Int := (Fw (opn t l) (x : Int) ((n - x : Nat) : Int) : Int)
theorem val_le (t l : Int) {n x : Nat} (hn : n ≤ 50) (hx : x ≤ n) : 0 ≤ val t l n x ∧ val t l n x ≤ 562949953421312 := by
  unfold val
  refine ⟨by omega, ?_⟩
  by_cases h : n = 0
  · subst h
    have hx0 : x = 0 := by omega
    subst hx0
    have := Fw_step (opn t l) 0 0 (by omega) (by omega)
    simp at this
    simp [this]
  · have := Fw_le (opn t l) (x : Int) ((n - x : Nat) : Int) (by omega) (by omega)
    omega
theorem A_val (t l : Int) {n x : Nat} (hn : n ≤ 50) (hx : x ≤ n) : A t l x (n - x) = val t l n x := by
  have h := val_le t l hn hx
  have h2 : (562949953421312 : Int) < C0 := by unfold C0; decide
  unfold A cp
  unfold val at h ⊢
  rw [if_pos (by omega)]
theorem B_val (t l : Int) {n x : Nat} (hn : n ≤ 50) (hx : x ≤ n) : Bk 1152921504606846976 t l x (n - x) 0 0 = val t l n x := by
  have h := val_le t l hn hx
  unfold Bk cp
  rw [show ((0 : Nat) : Int) = 0 from rfl, Fw_Bw]
  unfold val at h ⊢
  rw [if_pos (by omega)]
def sm (t l : Int) (n : Nat) (p : Nat → Bool) : Nat → Int
  | 0 => 0
  | i + 1 => sm t l n p i + if p i = true then val t l n i else 0
theorem sm_le (t l : Int) {n : Nat} (hn : n ≤ 50) (p : Nat → Bool) : ∀ i : Nat, i ≤ n + 1 → 0 ≤ sm t l n p i ∧ sm t l n p i ≤ 562949953421312 * (i : Int)
  | 0, _ => by simp [sm]
  | i + 1, h => by
    have h1 := sm_le t l hn p i (by omega)
    have h2 := val_le t l (x := i) hn (by omega)
    unfold sm
    split <;> omega
theorem sm_lt (t l : Int) {n : Nat} (hn : n ≤ 50) (p : Nat → Bool) (i : Nat) (h : i ≤ n + 1) : 0 ≤ sm t l n p i ∧ sm t l n p i ≤ 40000000000000000 := by
  have h1 := sm_le t l hn p i h
  omega
def pO (t l : Int) (n x : Nat) : Bool := opn t l (x : Int) ((n - x : Nat) : Int)
def pE (t l : Int) (n x : Nat) : Bool := !opn t l (x : Int) ((n - x : Nat) : Int)
theorem raOf_l0 (t l : Int) {n : Nat} (hn : n ≤ 50) (d : Nat) : ∀ x : Nat, x + d = n + 1 →
    Ev (fun k => spec_raOf.l0 k n (sm t l n (pE t l n) x) (sm t l n (pO t l n) x) (mat (n + 1) (n + 1) (A t l)) x t l) (sm t l n (pE t l n) (n + 1), sm t l n (pO t l n) (n + 1)) := by
  induction d with
  | zero =>
    intro x hx
    refine ev_some fun k => ?_
    simp only [spec_raOf.l0]
    rw [if_neg (by omega), show x = n + 1 by omega]
  | succ d ih =>
    intro x hx
    have hwn : wrap64 ((n : Int) - x) = ((n - x : Nat) : Int) := by rw [wrap_id (by omega) (by omega)]; omega
    have hwx : wrap64 ((x : Int) + 1) = ((x + 1 : Nat) : Int) := by rw [wrap_id (by omega) (by omega)]; omega
    have hr : rd_L1 (mat (n + 1) (n + 1) (A t l)) (x : Int) = (List.range (n + 1)).map (A t l x) := rdr' _ (by omega)
    have hrl : ∀ z : Unit, ((rd_L1 (mat (n + 1) (n + 1) (A t l)) (x : Int)).length : Int) = (n : Int) + 1 := fun _ => by rw [hr]; simp
    have hml : ∀ z : Unit, ((mat (n + 1) (n + 1) (A t l)).length : Int) = (n : Int) + 1 := fun _ => by rw [mat_len]; omega
    have hv : rd (rd_L1 (mat (n + 1) (n + 1) (A t l)) (x : Int)) ((n - x : Nat) : Int) = val t l n x := by
      rw [hr, rdc _ (by omega)]
      exact A_val t l hn (by omega)
    have b0 := val_le t l (x := x) hn (by omega)
    have b1 := sm_lt t l hn (pE t l n) x (by omega)
    have b2 := sm_lt t l hn (pO t l n) x (by omega)
    have ih' := ih (x + 1) (by omega)
    refine Ev.step (f := fun k => (spec_raWon.f k t l (x : Int) ((n - x : Nat) : Int)).bind fun t112 => spec_raOf.l0 k n (sm t l n (pE t l n) x + if t112 = 0 then 0 else val t l n x) (sm t l n (pO t l n) x + if t112 = 0 then val t l n x else 0) (mat (n + 1) (n + 1) (A t l)) ((x + 1 : Nat) : Int) t l) (fun k => ?_) ?_
    · simp only [spec_raOf.l0]
      rw [if_pos (by omega), hwn]
      congr 1
      funext t112
      by_cases h0 : t112 = 0
      · rw [if_pos h0, if_pos h0, if_pos h0, if_pos (by omega), if_pos (by rw [hml ()]; omega), if_pos (by omega), if_pos (by rw [hrl ()]; omega), hv, hwx, Int.add_zero, wrap_id (i := sm t l n (pO t l n) x + val t l n x) (by omega) (by omega)]
      · rw [if_neg h0, if_neg h0, if_neg h0, if_pos (by omega), if_pos (by rw [hml ()]; omega), if_pos (by omega), if_pos (by rw [hrl ()]; omega), hv, hwx, Int.add_zero, wrap_id (i := sm t l n (pE t l n) x + val t l n x) (by omega) (by omega)]
    · refine Ev.bind (raWon_q t l (x : Int) ((n - x : Nat) : Int) (by omega) (by omega) (by omega) (by omega)) ?_
      have e1 : sm t l n (pE t l n) (x + 1) = sm t l n (pE t l n) x + if won t l (x : Int) ((n - x : Nat) : Int) = 0 then 0 else val t l n x := by
        rw [sm]
        unfold pE opn
        by_cases h0 : won t l (x : Int) ((n - x : Nat) : Int) = 0 <;> simp [h0]
      have e2 : sm t l n (pO t l n) (x + 1) = sm t l n (pO t l n) x + if won t l (x : Int) ((n - x : Nat) : Int) = 0 then val t l n x else 0 := by
        rw [sm]
        unfold pO opn
        by_cases h0 : won t l (x : Int) ((n - x : Nat) : Int) = 0 <;> simp [h0]
      rw [e1, e2] at ih'
      exact ih'
theorem raOf_ev (t l : Int) {n : Nat} (hn : n ≤ 50) : Ev (fun k => spec_raOf.f k t l n) (sm t l n (pE t l n) (n + 1), sm t l n (pO t l n) (n + 1)) := by
  unfold spec_raOf.f
  refine Ev.bind (raWays_ev (t := t) (l := l) (a := n) (b := n) (by omega) (by omega)) ?_
  exact raOf_l0 t l hn (n + 1) 0 (by omega)
theorem countPlays_l0 (t l : Int) {n : Nat} (hn : n ≤ 50) (q : Bool) (d : Nat) : ∀ x : Nat, x + d = n + 1 →
    Ev (fun k => impl_countPlays.l0 k n q (sm t l n (fun x => opn t l (x : Int) ((n - x : Nat) : Int) == q) x) ((n + 1 : Nat) : Int) x t l) (sm t l n (fun x => opn t l (x : Int) ((n - x : Nat) : Int) == q) (n + 1), true) := by
  induction d with
  | zero =>
    intro x hx
    refine ev_some fun k => ?_
    simp only [impl_countPlays.l0]
    rw [if_neg (by omega), show x = n + 1 by omega]
  | succ d ih =>
    intro x hx
    have hwn : wrap64 ((n : Int) - x) = ((n - x : Nat) : Int) := by rw [wrap_id (by omega) (by omega)]; omega
    have hwx : wrap64 ((x : Int) + 1) = ((x + 1 : Nat) : Int) := by rw [wrap_id (by omega) (by omega)]; omega
    have b0 := val_le t l (x := x) hn (by omega)
    have b1 := sm_lt t l hn (fun x => opn t l (x : Int) ((n - x : Nat) : Int) == q) x (by omega)
    have ih' := ih (x + 1) (by omega)
    have ho := isOpen_eq t l (x : Int) ((n - x : Nat) : Int) (by omega) (by omega) (by omega) (by omega)
    have e1 : sm t l n (fun x => opn t l (x : Int) ((n - x : Nat) : Int) == q) (x + 1) = sm t l n (fun x => opn t l (x : Int) ((n - x : Nat) : Int) == q) x + if (opn t l (x : Int) ((n - x : Nat) : Int) == q) = true then val t l n x else 0 := by
      rw [sm]
    by_cases hq : (opn t l (x : Int) ((n - x : Nat) : Int) == q) = true
    · rw [e1, if_pos hq] at ih'
      refine Ev.step (f := fun k => (impl_Race_waysBetween.f k t l (x : Int) ((n - x : Nat) : Int) 1152921504606846976).bind fun t155 => if 0 < (t155.length : Int) then (if 0 < ((rd_L1 t155 0).length : Int) then (impl_countPlays.l0 k n q (wrap64 ((sm t l n (fun x => opn t l (x : Int) ((n - x : Nat) : Int) == q) x) + (rd (rd_L1 t155 0) 0))) ((n + 1 : Nat) : Int) ((x + 1 : Nat) : Int) t l) else none) else none) (fun k => ?_) ?_
      · simp only [impl_countPlays.l0]
        rw [if_pos (by omega), hwn, ho, Option.bind_some, if_pos hq, hwx]
      · refine Ev.bind (waysBetween_ev (C := 1152921504606846976) (t := t) (l := l) (a := x) (b := n - x) (by omega) (by omega) (by omega) (by omega)) ?_
        refine Ev.congr (fun k => ?_) ih'
        rw [if_pos (rd00_l1 1152921504606846976 t l x (n - x)), if_pos (rd00_l2 1152921504606846976 t l x (n - x)), rd00, B_val t l hn (by omega), wrap_id (i := sm t l n (fun x => opn t l (x : Int) ((n - x : Nat) : Int) == q) x + val t l n x) (by omega) (by omega)]
    · rw [e1, if_neg hq, Int.add_zero] at ih'
      refine Ev.step (fun k => ?_) ih'
      simp only [impl_countPlays.l0]
      rw [if_pos (by omega), hwn, ho, Option.bind_some, if_neg hq, hwx]
def goodC (t l n : Int) : Bool := decide ((1 ≤ t ∧ t ≤ 30) ∧ (1 ≤ l ∧ l ≤ 5) ∧ (0 ≤ n ∧ n ≤ 50))
theorem countPlays_ev (t l n : Int) (q : Bool) : Ev (fun k => impl_countPlays.f k t l n q) (if goodC t l n = true then (sm t l n.toNat (fun x => opn t l (x : Int) ((n.toNat - x : Nat) : Int) == q) (n.toNat + 1), true) else (0, false)) := by
  have shut : Ev (fun k => impl_countPlays.j0 k n q true t l) (0, false) := by
    refine ev_some fun k => ?_
    simp [impl_countPlays.j0]
  unfold impl_countPlays.f impl_IsRace.f goodC
  simp only [within_eq, Option.bind_some]
  by_cases h1 : 1 ≤ t ∧ t ≤ 30
  · by_cases h2 : 1 ≤ l ∧ l ≤ 5
    · by_cases h3 : 0 ≤ n ∧ n ≤ 50
      · simp only [h1, h2, h3, and_self, decide_true, if_true, Option.bind_some]
        obtain ⟨m, rfl⟩ : ∃ m : Nat, n = (m : Int) := ⟨n.toNat, by omega⟩
        rw [Int.toNat_natCast]
        refine Ev.step (fun k => ?_) (countPlays_l0 t l (n := m) (by omega) q (m + 1) 0 (by omega))
        simp only [impl_countPlays.j0]
        rw [if_neg (by decide), wrap_id (i := (m : Int) + 1) (by omega) (by omega)]
        rfl
      · simp only [h1, h2, h3, and_self, decide_true, decide_false, if_true, Option.bind_some, and_false, Bool.not_false, Bool.false_eq_true, if_false]
        exact shut
    · simp only [h1, h2, and_self, decide_true, decide_false, if_true, Option.bind_some, and_false, false_and, Bool.not_false, Bool.false_eq_true, if_false]
      exact shut
  · simp only [h1, decide_true, decide_false, Option.bind_some, and_false, false_and, Bool.false_eq_true, if_false]
    exact shut

theorem FnExactCountOpenPlays : ∀ (a0_0 : Int) (a0_1 : Int) (a1 : Int), (Lit.int .i64 a0_0).wf = true → (Lit.int .i64 a0_1).wf = true → (Lit.int .i64 a1).wf = true → ∃ k, laws_FnExactCountOpenPlays.f k a0_0 a0_1 a1 = some true := by
  intro t l n _ _ _
  refine Ev.rounds ?_
  unfold laws_FnExactCountOpenPlays.f
  simp only [laws_toRace.f, Option.bind_some]
  have hs : Ev (fun k => spec_CountOpenPlays.f k t l n) (if goodC t l n = true then (sm t l n.toNat (pO t l n.toNat) (n.toNat + 1), true) else (0, false)) := by
    unfold spec_CountOpenPlays.f spec_raGood.f goodC
    simp only [l1In_eq, Option.bind_some]
    by_cases h1 : 1 ≤ t ∧ t ≤ 30
    · by_cases h2 : 1 ≤ l ∧ l ≤ 5
      · by_cases h3 : 0 ≤ n ∧ n ≤ 50
        · simp only [h1, h2, h3, and_self, decide_true, if_true, Option.bind_some]
          obtain ⟨m, rfl⟩ : ∃ m : Nat, n = (m : Int) := ⟨n.toNat, by omega⟩
          rw [Int.toNat_natCast]
          refine Ev.bind (raOf_ev t l (n := m) (by omega)) ?_
          exact Ev.now _
        · simp only [h1, h2, h3, and_self, decide_true, decide_false, if_true, Option.bind_some, and_false, Bool.false_eq_true, if_false]
          exact Ev.now _
      · simp only [h1, h2, and_self, decide_true, decide_false, if_true, Option.bind_some, and_false, false_and, Bool.false_eq_true, if_false]
        exact Ev.now _
    · simp only [h1, decide_true, decide_false, Option.bind_some, and_false, false_and, Bool.false_eq_true, if_false]
      exact Ev.now _
  have hp : (fun x : Nat => opn t l (x : Int) ((n.toNat - x : Nat) : Int) == true) = pO t l n.toNat := by
    funext x
    unfold pO
    cases opn t l (x : Int) ((n.toNat - x : Nat) : Int) <;> rfl
  have hi : Ev (fun k => impl_CountOpenPlays.f k t l n) (if goodC t l n = true then (sm t l n.toNat (pO t l n.toNat) (n.toNat + 1), true) else (0, false)) := by
    have := countPlays_ev t l n true
    rw [hp] at this
    unfold impl_CountOpenPlays.f
    refine Ev.bind this ?_
    exact Ev.now _
  refine Ev.bind hs ?_
  refine Ev.bind hi ?_
  simp
  exact Ev.now _

end Go.Proofs.Ytjidebaganmeoaa.Pure
