import Derived.Test.YtjidebaganmeoaaGWays
/-! What spec.raWays computes, in plain Lean. -/
namespace Go.Proofs.Ytjidebaganmeoaa.WaysP
open Go.RowKit Go.Proofs.Ytjidebaganmeoaa.QWays Go.Proofs.YtjidebaganmeoaaW.PrintWords Go.Proofs.YtjidebaganmeoaaW.PrintLast Go.Proofs.YtjidebaganmeoaaW.PrintMore
set_option linter.unusedVariables false
set_option linter.unusedSimpArgs false
set_option linter.unusedSectionVars false

theorem ev_some {α : Type} {g : Nat → Option α} {r : α} (h : ∀ k, g (k + 1) = some r) : Ev g r := Ev.step h (Ev.now r)
theorem ev_const {α : Type} {g : Nat → Option α} {r : α} (h : ∀ k, g k = some r) : Ev g r := ⟨0, fun k _ => h k⟩
theorem wrap_id {i : Int} (h0 : -9223372036854775808 ≤ i) (h1 : i ≤ 9223372036854775807) : wrap64 i = i := by unfold wrap64; omega

def T (op : Int → Int → Bool) : Nat → Int → Int → Int → Int → Nat
  | 0, x, y, a, b => if x = a ∧ y = b then 1 else 0
  | n + 1, x, y, a, b => if op x y = true then T op n (x + 1) y a b + T op n x (y + 1) a b else 0

theorem T_snoc (op : Int → Int → Bool) (a b : Int) (n : Nat) : ∀ x y : Int, T op (n + 1) x y a b
    = (if op (a - 1) b = true then T op n x y (a - 1) b else 0) + (if op a (b - 1) = true then T op n x y a (b - 1) else 0) := by
  induction n with
  | zero =>
    intro x y
    simp only [T]
    by_cases h1 : x + 1 = a ∧ y = b
    · obtain ⟨rfl, rfl⟩ := h1
      have e : x + 1 - 1 = x := by omega
      rw [e]
      have h2 : ¬ (x = x + 1 ∧ y + 1 = y) := by omega
      have h3 : ¬ (x = x + 1 ∧ y = y - 1) := by omega
      rw [if_neg h2, if_neg h3]
      simp
    · by_cases h2 : x = a ∧ y + 1 = b
      · obtain ⟨rfl, rfl⟩ := h2
        have e : y + 1 - 1 = y := by omega
        rw [e]
        have h3 : ¬ (x = x - 1 ∧ y = y + 1) := by omega
        have h4 : ¬ (x + 1 = x ∧ y = y + 1) := by omega
        rw [if_neg h3, if_neg h4]
        simp
      · have h3 : ¬ (x = a - 1 ∧ y = b) := by omega
        have h4 : ¬ (x = a ∧ y = b - 1) := by omega
        rw [if_neg h1, if_neg h2, if_neg h3, if_neg h4]
        simp
  | succ n ih =>
    intro x y
    rw [show T op (n + 1 + 1) x y a b = (if op x y = true then T op (n + 1) (x + 1) y a b + T op (n + 1) x (y + 1) a b else 0) from rfl]
    rw [ih, ih]
    rw [show T op (n + 1) x y (a - 1) b = (if op x y = true then T op n (x + 1) y (a - 1) b + T op n x (y + 1) (a - 1) b else 0) from rfl]
    rw [show T op (n + 1) x y a (b - 1) = (if op x y = true then T op n (x + 1) y a (b - 1) + T op n x (y + 1) a (b - 1) else 0) from rfl]
    by_cases h : op x y = true
    · simp only [h, if_true]
      split <;> split <;> omega
    · simp [h]

theorem T_low (op : Int → Int → Bool) (a b : Int) (n : Nat) : ∀ x y : Int, (a < x ∨ b < y) → T op n x y a b = 0 := by
  induction n with
  | zero => intro x y h; simp only [T]; rw [if_neg (by omega)]
  | succ n ih => intro x y h; simp only [T]; rw [ih _ _ (by omega), ih _ _ (by omega)]; simp

theorem T_len (op : Int → Int → Bool) (a b : Int) (n : Nat) : ∀ x y : Int, (a + b - x - y ≠ (n : Int)) → T op n x y a b = 0 := by
  induction n with
  | zero => intro x y h; simp only [T]; rw [if_neg (by omega)]
  | succ n ih => intro x y h; simp only [T]; rw [ih _ _ (by omega), ih _ _ (by omega)]; simp

theorem T_le (op : Int → Int → Bool) (a b : Int) (n : Nat) : ∀ x y : Int, T op (n + 1) x y a b ≤ 2 ^ n := by
  induction n with
  | zero =>
    intro x y
    simp only [T]
    split
    · split <;> split <;> omega
    · simp
  | succ n ih =>
    intro x y
    rw [show T op (n + 1 + 1) x y a b = (if op x y = true then T op (n + 1) (x + 1) y a b + T op (n + 1) x (y + 1) a b else 0) from rfl]
    have h1 := ih (x + 1) y
    have h2 := ih x (y + 1)
    split
    · rw [Nat.pow_succ]; omega
    · simp

/-- forward: plays from nothing to x, y -/
def Fw (op : Int → Int → Bool) (x y : Int) : Nat := T op (x + y).toNat 0 0 x y
/-- backward: plays from x, y to a, b -/
def Bw (op : Int → Int → Bool) (a b x y : Int) : Nat := T op (a + b - x - y).toNat x y a b

theorem Fw_Bw (op : Int → Int → Bool) (a b : Int) : Bw op a b 0 0 = Fw op a b := by
  unfold Bw Fw
  rw [show a + b - 0 - 0 = a + b by omega]

theorem Fw_step (op : Int → Int → Bool) (x y : Int) (hx : 0 ≤ x) (hy : 0 ≤ y) : Fw op x y
    = (if x = 0 ∧ y = 0 then 1 else 0) + (if 0 < x ∧ op (x - 1) y = true then Fw op (x - 1) y else 0) + (if 0 < y ∧ op x (y - 1) = true then Fw op x (y - 1) else 0) := by
  unfold Fw
  by_cases h0 : x = 0 ∧ y = 0
  · obtain ⟨rfl, rfl⟩ := h0
    simp [T]
  · rw [if_neg h0]
    obtain ⟨n, hn⟩ : ∃ n : Nat, x + y = (n : Int) + 1 := ⟨(x + y - 1).toNat, by omega⟩
    rw [show (x + y).toNat = n + 1 by omega, T_snoc]
    rw [show (x - 1 + y).toNat = n by omega, show (x + (y - 1)).toNat = n by omega, Nat.zero_add]
    congr 1
    · by_cases hp : 0 < x
      · simp [hp]
      · rw [T_low op _ _ _ _ _ (by omega)]; simp
    · by_cases hp : 0 < y
      · simp [hp]
      · rw [T_low op _ _ _ _ _ (by omega)]; simp

theorem Bw_end (op : Int → Int → Bool) (a b : Int) : Bw op a b a b = 1 := by
  unfold Bw
  rw [show (a + b - a - b).toNat = 0 by omega]
  simp [T]

theorem Bw_step (op : Int → Int → Bool) (a b x y : Int) (hx : x ≤ a) (hy : y ≤ b) (h : ¬ (x = a ∧ y = b)) : Bw op a b x y
    = if op x y = true then Bw op a b (x + 1) y + Bw op a b x (y + 1) else 0 := by
  unfold Bw
  obtain ⟨n, hn⟩ : ∃ n : Nat, a + b - x - y = (n : Int) + 1 := ⟨(a + b - x - y - 1).toNat, by omega⟩
  rw [show (a + b - x - y).toNat = n + 1 by omega, show (a + b - (x + 1) - y).toNat = n by omega, show (a + b - x - (y + 1)).toNat = n by omega]
  rfl

theorem Bw_out (op : Int → Int → Bool) (a b x y : Int) (h : a < x ∨ b < y) : Bw op a b x y = 0 := T_low _ _ _ _ _ _ h

theorem Fw_le (op : Int → Int → Bool) (x y : Int) (h : 1 ≤ x + y) (h2 : x + y ≤ 50) : Fw op x y ≤ 562949953421312 := by
  unfold Fw
  obtain ⟨n, hn⟩ : ∃ n : Nat, x + y = (n : Int) + 1 := ⟨(x + y - 1).toNat, by omega⟩
  rw [show (x + y).toNat = n + 1 by omega]
  have := T_le op x y n 0 0
  have h3 : 2 ^ n ≤ 2 ^ 49 := Nat.pow_le_pow_right (by omega) (by omega)
  omega


/-! rows of rows told by a function -/
def mat (n m : Nat) (f : Nat → Nat → Int) : List (List Int) := (List.range n).map fun i => (List.range m).map (f i)
theorem mat_len (n m : Nat) (f : Nat → Nat → Int) : (mat n m f).length = n := by simp [mat]
theorem mat_row {n : Nat} (m : Nat) (f : Nat → Nat → Int) {i : Nat} (h : i < n) : (mat n m f).getD i [] = (List.range m).map (f i) := by
  simp [mat, List.getD_eq_getElem?_getD, h]
theorem row_at {m : Nat} (g : Nat → Int) {j : Nat} (h : j < m) : ((List.range m).map g).getD j 0 = g j := by
  simp [List.getD_eq_getElem?_getD, h]
theorem mat_congr {n m : Nat} {f g : Nat → Nat → Int} (h : ∀ i j, i < n → j < m → f i j = g i j) : mat n m f = mat n m g := by
  unfold mat
  apply List.map_congr_left
  intro i hi
  apply List.map_congr_left
  intro j hj
  exact h i j (by simpa using hi) (by simpa using hj)
theorem mat_set {n m : Nat} (f : Nat → Nat → Int) {i j : Nat} (hi : i < n) (hj : j < m) (v : Int) :
    (mat n m f).set i (((List.range m).map (f i)).set j v) = mat n m (fun p q => if p = i ∧ q = j then v else f p q) := by
  apply List.ext_getElem?
  intro p
  by_cases hp : p < n
  · by_cases e : p = i
    · subst e
      rw [List.getElem?_set_self (by rw [mat_len]; exact hp)]
      simp only [mat, List.getElem?_map, List.getElem?_range hp, Option.map_some, true_and]
      congr 1
      apply List.ext_getElem?
      intro q
      by_cases hq : q < m
      · by_cases e2 : q = j
        · subst e2
          rw [List.getElem?_set_self (by simpa using hq)]
          simp [hq]
        · rw [List.getElem?_set_ne (fun h => e2 h.symm)]
          simp [hq, e2]
      · rw [List.getElem?_eq_none (by simp; omega), List.getElem?_eq_none (by simp; omega)]
    · rw [List.getElem?_set_ne (fun h => e h.symm)]
      simp only [mat, List.getElem?_map, List.getElem?_range hp, Option.map_some, e, false_and, if_false]
  · rw [List.getElem?_eq_none (by rw [List.length_set, mat_len]; omega), List.getElem?_eq_none (by rw [mat_len]; omega)]
theorem mat_snoc (n m : Nat) (f : Nat → Nat → Int) (h : ∀ j, j < m → f n j = 0) : mat n m f ++ [List.replicate m 0] = mat (n + 1) m f := by
  unfold mat
  rw [List.range_succ, List.map_append]
  congr 1
  simp only [List.map_cons, List.map_nil]
  congr 1
  apply List.ext_getElem?
  intro q
  by_cases hq : q < m
  · simp [hq, h q hq]
  · rw [List.getElem?_eq_none (by simp; omega), List.getElem?_eq_none (by simp; omega)]

/-! who has won -/
def won (t l x y : Int) : Int := if t ≤ x ∧ l ≤ x - y then 1 else if t ≤ y ∧ l ≤ y - x then -1 else 0
def opn (t l x y : Int) : Bool := decide (won t l x y = 0)
theorem won_ev (t l x y : Int) (hx : 0 ≤ x) (hx2 : x ≤ 200) (hy : 0 ≤ y) (hy2 : y ≤ 200) : Ev (fun k => spec_raWon.f k t l x y) (won t l x y) := by
  have e1 : wrap64 (x - y) = x - y := wrap_id (by omega) (by omega)
  have e2 : wrap64 (y - x) = y - x := wrap_id (by omega) (by omega)
  unfold spec_raWon.f won
  by_cases c1 : t ≤ x <;> by_cases c2 : l ≤ x - y <;> by_cases c3 : t ≤ y <;> by_cases c4 : l ≤ y - x <;>
    (simp only [ge_iff_le, c1, c2, c3, c4, e1, e2, if_true, if_false, true_and, and_true, false_and, and_false, decide_true, decide_false]
     refine ev_some fun k => ?_
     simp [spec_raWon.j0, c1, c2, c3, c4, e1, e2])
theorem least_eq (a b : Int) : spec_l1Least.f a b = some (if a < b then a else b) := by
  unfold spec_l1Least.f
  split <;> rfl

/-! numbers no more than one more than the most -/
@[irreducible] def C0 : Int := 1000000000000001
theorem C0_is : (1000000000000001 : Int) = C0 := by unfold C0; rfl
theorem C0_lo : 2 ≤ C0 := by unfold C0; decide
theorem C0_hi : C0 ≤ 4000000000000000 := by unfold C0; decide
def cp (C : Int) (n : Nat) : Int := if (n : Int) < C then (n : Int) else C
def A (t l : Int) (i j : Nat) : Int := cp C0 (Fw (opn t l) (i : Int) (j : Int))
def G (t l : Int) (x y i j : Nat) : Int := if i < x ∨ (i = x ∧ j < y) then A t l i j else 0
theorem A_le (t l : Int) (i j : Nat) : 0 ≤ A t l i j ∧ A t l i j ≤ C0 := by
  have := C0_lo
  unfold A cp
  split <;> omega

def n0 (x y : Nat) : Int := if x = 0 ∧ y = 0 then 1 else 0
def n1 (t l : Int) (x y : Nat) : Int := if 0 < x ∧ opn t l ((x : Int) - 1) y = true then A t l (x - 1) y else 0
def n2 (t l : Int) (x y : Nat) : Int := if 0 < y ∧ opn t l x ((y : Int) - 1) = true then A t l x (y - 1) else 0
theorem A_step (t l : Int) (x y : Nat) : A t l x y = if n0 x y + n1 t l x y + n2 t l x y < C0 then n0 x y + n1 t l x y + n2 t l x y else C0 := by
  have hC := C0_lo
  have h := Fw_step (opn t l) (x : Int) (y : Int) (by omega) (by omega)
  have g1 : n1 t l x y = cp C0 (if (0 : Int) < x ∧ opn t l ((x : Int) - 1) y = true then Fw (opn t l) ((x : Int) - 1) y else 0) := by
    unfold n1 A
    by_cases hx : 0 < x
    · have hx' : (0 : Int) < x := by omega
      have e2 : ((x - 1 : Nat) : Int) = (x : Int) - 1 := by omega
      simp only [hx, hx', true_and, e2]
      split
      · rfl
      · unfold cp; rw [if_pos (by omega)]; rfl
    · have hx' : ¬ (0 : Int) < x := by omega
      simp only [hx, hx', false_and, if_false]
      unfold cp; rw [if_pos (by omega)]; rfl
  have g2 : n2 t l x y = cp C0 (if (0 : Int) < y ∧ opn t l x ((y : Int) - 1) = true then Fw (opn t l) x ((y : Int) - 1) else 0) := by
    unfold n2 A
    by_cases hx : 0 < y
    · have hx' : (0 : Int) < y := by omega
      have e2 : ((y - 1 : Nat) : Int) = (y : Int) - 1 := by omega
      simp only [hx, hx', true_and, e2]
      split
      · rfl
      · unfold cp; rw [if_pos (by omega)]; rfl
    · have hx' : ¬ (0 : Int) < y := by omega
      simp only [hx, hx', false_and, if_false]
      unfold cp; rw [if_pos (by omega)]; rfl
  have g0 : n0 x y = ((if (x : Int) = 0 ∧ (y : Int) = 0 then 1 else 0 : Nat) : Int) := by
    unfold n0
    by_cases h0 : x = 0 ∧ y = 0
    · rw [if_pos h0, if_pos (by omega)]; rfl
    · rw [if_neg h0, if_neg (by omega)]; rfl
  rw [g0, g1, g2]
  unfold A
  rw [h]
  generalize (if (x : Int) = 0 ∧ (y : Int) = 0 then 1 else 0 : Nat) = u
  generalize (if (0 : Int) < x ∧ opn t l ((x : Int) - 1) y = true then Fw (opn t l) ((x : Int) - 1) y else 0) = v
  generalize (if (0 : Int) < y ∧ opn t l x ((y : Int) - 1) = true then Fw (opn t l) x ((y : Int) - 1) else 0) = z
  unfold cp
  split <;> split <;> split <;> split <;> omega

theorem rdr {n m : Nat} (f : Nat → Nat → Int) {i : Nat} (h : i < n) : rd_L1 (mat n m f) (i : Int) = (List.range m).map (f i) := by
  unfold rd_L1
  rw [Int.toNat_natCast]
  exact mat_row m f h
theorem rdc {m : Nat} (g : Nat → Int) {j : Nat} (h : j < m) : rd ((List.range m).map g) (j : Int) = g j := by
  unfold rd
  rw [Int.toNat_natCast]
  exact row_at g h

section
variable {t l : Int} {a b : Nat} (ha : a ≤ 100) (hb : b ≤ 100)
include ha hb
theorem tail_eq {x y : Nat} (hx : x ≤ a) (hy : y ≤ b) (k : Nat) (n : Int) :
    (if 0 ≤ (x : Int) then (if (x : Int) < ((mat (x + 1) (b + 1) (G t l x y)).length : Int) then ((spec_l1Least.f n 1000000000000001).bind fun t126 => (if 0 ≤ (y : Int) then (if (y : Int) < ((rd_L1 (mat (x + 1) (b + 1) (G t l x y)) (x : Int)).length : Int) then (spec_raWays.l1 k a b ((mat (x + 1) (b + 1) (G t l x y)).set (x : Int).toNat ((rd_L1 (mat (x + 1) (b + 1) (G t l x y)) (x : Int)).set (y : Int).toNat t126)) x ((b + 1 : Nat) : Int) (wrap64 ((y : Int) + 1)) t l) else (none)) else (none))) else (none)) else (none))
    = spec_raWays.l1 k a b (mat (x + 1) (b + 1) (fun p q => if p = x ∧ q = y then (if n < C0 then n else C0) else G t l x y p q)) x ((b + 1 : Nat) : Int) ((y + 1 : Nat) : Int) t l := by
  have hr : rd_L1 (mat (x + 1) (b + 1) (G t l x y)) (x : Int) = (List.range (b + 1)).map (G t l x y x) := rdr _ (by omega)
  have hml : ((mat (x + 1) (b + 1) (G t l x y)).length : Int) = (x : Int) + 1 := by rw [mat_len]; omega
  have hw : wrap64 ((y : Int) + 1) = ((y + 1 : Nat) : Int) := by rw [wrap_id (by omega) (by omega)]; omega
  rw [if_pos (by omega), if_pos (by omega), least_eq, Option.bind_some, if_pos (by omega), hr, if_pos (by simp; omega), hw, Int.toNat_natCast, Int.toNat_natCast, mat_set _ (by omega) (by omega), C0_is]
theorem j5_ev {x y : Nat} (hx : x ≤ a) (hy : y ≤ b) (n : Int) (hn : 0 ≤ n) (hn2 : n ≤ C0 + 1) (r : List (List Int))
    (h : Ev (fun k => spec_raWays.l1 k a b (mat (x + 1) (b + 1) (fun p q => if p = x ∧ q = y then (if n + n2 t l x y < C0 then n + n2 t l x y else C0) else G t l x y p q)) x ((b + 1 : Nat) : Int) ((y + 1 : Nat) : Int) t l) r) :
    Ev (fun k => spec_raWays.j5 k a b (mat (x + 1) (b + 1) (G t l x y)) x y n ((b + 1 : Nat) : Int) y t l) r := by
  have hC := C0_hi
  have hr : rd_L1 (mat (x + 1) (b + 1) (G t l x y)) (x : Int) = (List.range (b + 1)).map (G t l x y x) := rdr _ (by omega)
  have hlen : ((rd_L1 (mat (x + 1) (b + 1) (G t l x y)) (x : Int)).length : Int) = (b : Int) + 1 := by rw [hr]; simp
  have hml : ((mat (x + 1) (b + 1) (G t l x y)).length : Int) = (x : Int) + 1 := by rw [mat_len]; omega
  by_cases hy0 : 0 < y
  · have hy1 : (y : Int) > 0 := by omega
    have hwy : wrap64 ((y : Int) - 1) = ((y - 1 : Nat) : Int) := by rw [wrap_id (by omega) (by omega)]; omega
    have hv : rd (rd_L1 (mat (x + 1) (b + 1) (G t l x y)) (x : Int)) ((y - 1 : Nat) : Int) = A t l x (y - 1) := by
      rw [hr, rdc _ (by omega)]
      unfold G
      rw [if_pos (by omega)]
    have hwr : ∀ q : Int, 0 ≤ q → q ≤ C0 → wrap64 (n + q) = n + q := fun q h1 h2 => wrap_id (by omega) (by omega)
    have hA := A_le t l x (y - 1)
    have e3 : ((y - 1 : Nat) : Int) = (y : Int) - 1 := by omega
    refine Ev.step (f := fun k => (spec_raWon.f k t l x ((y - 1 : Nat) : Int)).bind fun t112 => spec_raWays.l1 k a b (mat (x + 1) (b + 1) (fun p q => if p = x ∧ q = y then (if n + (if t112 = 0 then A t l x (y - 1) else 0) < C0 then n + (if t112 = 0 then A t l x (y - 1) else 0) else C0) else G t l x y p q)) x ((b + 1 : Nat) : Int) ((y + 1 : Nat) : Int) t l) (fun k => ?_) ?_
    · simp only [spec_raWays.j5]
      rw [if_pos hy1, hwy]
      congr 1
      funext t112
      by_cases h0 : t112 = 0
      · rw [if_pos h0, if_pos h0]
        have := tail_eq ha hb (t := t) (l := l) hx hy k (n + A t l x (y - 1))
        rw [if_pos (by omega), if_pos (by omega)] at this
        rw [if_pos (by omega), if_pos (by omega), if_pos (by omega), if_pos (by omega), hv, hwr _ hA.1 hA.2]
        exact this
      · rw [if_neg h0, if_neg h0, Int.add_zero]
        exact tail_eq ha hb hx hy k n
    · refine Ev.bind (won_ev t l x ((y - 1 : Nat) : Int) (by omega) (by omega) (by omega) (by omega)) ?_
      have hn2' : n2 t l x y = if won t l x ((y - 1 : Nat) : Int) = 0 then A t l x (y - 1) else 0 := by
        unfold n2 opn
        rw [← e3]
        simp [hy0]
      rw [hn2'] at h
      exact h
  · have hn2' : n2 t l x y = 0 := by unfold n2; rw [if_neg (fun hh => hy0 hh.1)]
    rw [hn2', Int.add_zero] at h
    refine Ev.step (fun k => ?_) h
    simp only [spec_raWays.j5]
    rw [if_neg (by omega)]
    exact tail_eq ha hb hx hy k n
theorem j3_ev {x y : Nat} (hx : x ≤ a) (hy : y ≤ b) (r : List (List Int))
    (h : Ev (fun k => spec_raWays.l1 k a b (mat (x + 1) (b + 1) (G t l x (y + 1))) x ((b + 1 : Nat) : Int) ((y + 1 : Nat) : Int) t l) r) :
    Ev (fun k => spec_raWays.j3 k a b (mat (x + 1) (b + 1) (G t l x y)) x y (n0 x y) ((b + 1 : Nat) : Int) y t l) r := by
  have hC := C0_hi
  have hC2 := C0_lo
  have h0 : 0 ≤ n0 x y ∧ n0 x y ≤ 1 := by unfold n0; split <;> omega
  have hG : mat (x + 1) (b + 1) (fun p q => if p = x ∧ q = y then (if n0 x y + n1 t l x y + n2 t l x y < C0 then n0 x y + n1 t l x y + n2 t l x y else C0) else G t l x y p q) = mat (x + 1) (b + 1) (G t l x (y + 1)) := by
    apply mat_congr
    intro i j hi hj
    rw [← A_step]
    unfold G
    by_cases e : i = x ∧ j = y
    · obtain ⟨rfl, rfl⟩ := e
      simp
    · rw [if_neg e]
      by_cases e2 : i < x ∨ (i = x ∧ j < y)
      · rw [if_pos e2, if_pos (by omega)]
      · rw [if_neg e2, if_neg (by omega)]
  rw [← hG] at h
  have e1 : ∀ n : Int, 0 ≤ n → n ≤ C0 + 1 → n = n0 x y + n1 t l x y → Ev (fun k => spec_raWays.j5 k a b (mat (x + 1) (b + 1) (G t l x y)) x y n ((b + 1 : Nat) : Int) y t l) r := by
    intro n hn hn2 he
    refine j5_ev ha hb hx hy n hn hn2 r ?_
    rw [he]
    exact h
  by_cases hx0 : 0 < x
  · have hx1 : (x : Int) > 0 := by omega
    have hwx : wrap64 ((x : Int) - 1) = ((x - 1 : Nat) : Int) := by rw [wrap_id (by omega) (by omega)]; omega
    have e3 : ((x - 1 : Nat) : Int) = (x : Int) - 1 := by omega
    have hA := A_le t l (x - 1) y
    have hr : rd_L1 (mat (x + 1) (b + 1) (G t l x y)) ((x - 1 : Nat) : Int) = (List.range (b + 1)).map (G t l x y (x - 1)) := rdr _ (by omega)
    have hv : rd (rd_L1 (mat (x + 1) (b + 1) (G t l x y)) ((x - 1 : Nat) : Int)) (y : Int) = A t l (x - 1) y := by
      rw [hr, rdc _ (by omega)]
      unfold G
      rw [if_pos (by omega)]
    have hml : ((mat (x + 1) (b + 1) (G t l x y)).length : Int) = (x : Int) + 1 := by rw [mat_len]; omega
    have hlen : ((rd_L1 (mat (x + 1) (b + 1) (G t l x y)) ((x - 1 : Nat) : Int)).length : Int) = (b : Int) + 1 := by rw [hr]; simp
    refine Ev.step (f := fun k => (spec_raWon.f k t l ((x - 1 : Nat) : Int) y).bind fun t109 => spec_raWays.j4 k a b (mat (x + 1) (b + 1) (G t l x y)) x y (n0 x y) ((b + 1 : Nat) : Int) y (t109 == 0) t l) (fun k => ?_) ?_
    · simp only [spec_raWays.j3]
      rw [if_pos hx1, hwx]
    · refine Ev.bind (won_ev t l ((x - 1 : Nat) : Int) y (by omega) (by omega) (by omega) (by omega)) ?_
      by_cases hw0 : won t l ((x - 1 : Nat) : Int) y = 0
      · have hn1 : n1 t l x y = A t l (x - 1) y := by
          unfold n1 opn
          rw [← e3, if_pos ⟨hx0, by simpa using hw0⟩]
        refine Ev.step (fun k => ?_) (e1 (n0 x y + A t l (x - 1) y) (by omega) (by omega) (by rw [hn1]))
        simp only [spec_raWays.j4, hw0]
        rw [if_pos (by rfl), hwx, if_pos (by omega), if_pos (by omega), if_pos (by omega), if_pos (by omega), hv, wrap_id (i := n0 x y + A t l (x - 1) y) (by omega) (by omega)]
      · have hn1 : n1 t l x y = 0 := by
          unfold n1 opn
          rw [← e3, if_neg (by simp [hw0])]
        refine Ev.step (fun k => ?_) (e1 (n0 x y) (by omega) (by omega) (by rw [hn1, Int.add_zero]))
        have hb0 : (won t l ((x - 1 : Nat) : Int) y == 0) = false := by simp [hw0]
        simp only [spec_raWays.j4, hb0]
        rw [if_neg (by decide)]
  · have hn1 : n1 t l x y = 0 := by unfold n1; rw [if_neg (fun hh => hx0 hh.1)]
    refine Ev.step (f := fun k => spec_raWays.j4 k a b (mat (x + 1) (b + 1) (G t l x y)) x y (n0 x y) ((b + 1 : Nat) : Int) y false t l) (fun k => ?_) (Ev.step (fun k => ?_) (e1 (n0 x y) (by omega) (by omega) (by rw [hn1, Int.add_zero])))
    · simp only [spec_raWays.j3]
      rw [if_neg (by omega)]
    · simp only [spec_raWays.j4]
      rw [if_neg (by decide)]
theorem l1_step {x y : Nat} (hx : x ≤ a) (hy : y ≤ b) (r : List (List Int))
    (h : Ev (fun k => spec_raWays.l1 k a b (mat (x + 1) (b + 1) (G t l x (y + 1))) x ((b + 1 : Nat) : Int) ((y + 1 : Nat) : Int) t l) r) :
    Ev (fun k => spec_raWays.l1 k a b (mat (x + 1) (b + 1) (G t l x y)) x ((b + 1 : Nat) : Int) (y : Int) t l) r := by
  have h3 := j3_ev ha hb hx hy r h
  refine Ev.step (f := fun k => spec_raWays.j2 k a b (mat (x + 1) (b + 1) (G t l x y)) x y 0 ((b + 1 : Nat) : Int) y (decide (x = 0 ∧ y = 0)) t l) (fun k => ?_) (Ev.step (fun k => ?_) h3)
  · simp only [spec_raWays.l1]
    rw [if_pos (by omega)]
    by_cases hx0 : x = 0
    · rw [if_pos (by omega)]
      congr 1
      by_cases hy0 : y = 0
      · simp [hx0, hy0]
      · have : ((y : Int) == 0) = false := by simp; omega
        rw [this]
        simp [hy0]
    · rw [if_neg (by omega)]
      simp [hx0]
  · simp only [spec_raWays.j2]
    unfold n0
    by_cases h0 : x = 0 ∧ y = 0
    · rw [if_pos (by simp [h0]), if_pos h0]
    · rw [if_neg (by simpa using h0), if_neg h0]
theorem l1_ev {x : Nat} (hx : x ≤ a) (r : List (List Int)) (h : Ev (fun k => spec_raWays.l0 k a b (mat (x + 1) (b + 1) (G t l (x + 1) 0)) ((x + 1 : Nat) : Int) t l) r) (d : Nat) : ∀ y : Nat, y + d = b + 1 →
    Ev (fun k => spec_raWays.l1 k a b (mat (x + 1) (b + 1) (G t l x y)) x ((b + 1 : Nat) : Int) (y : Int) t l) r := by
  induction d with
  | zero =>
    intro y hy
    refine Ev.step (fun k => ?_) h
    simp only [spec_raWays.l1]
    rw [if_neg (by omega), wrap_id (by omega) (by omega)]
    congr 1
    apply mat_congr
    intro i j hi hj
    unfold G
    rw [if_pos (by omega), if_pos (by omega)]
  | succ d ih =>
    intro y hy
    exact l1_step ha hb hx (by omega) r (ih (y + 1) (by omega))
theorem l0_ev (d : Nat) : ∀ x : Nat, x + d = a + 1 → Ev (fun k => spec_raWays.l0 k a b (mat x (b + 1) (G t l x 0)) (x : Int) t l) (mat (a + 1) (b + 1) (A t l)) := by
  induction d with
  | zero =>
    intro x hx
    refine ev_some fun k => ?_
    simp only [spec_raWays.l0]
    rw [if_neg (by omega), hx.symm, Nat.add_zero]
    congr 1
    apply mat_congr
    intro i j hi hj
    unfold G
    rw [if_pos (by omega)]
  | succ d ih =>
    intro x hx
    refine Ev.step (fun k => ?_) (l1_ev ha hb (by omega) _ (ih (x + 1) (by omega)) (b + 1) 0 (by omega))
    simp only [spec_raWays.l0]
    have hw : wrap64 ((b : Int) + 1) = ((b + 1 : Nat) : Int) := by rw [wrap_id (by omega) (by omega)]; omega
    rw [if_pos (by omega), hw, if_pos (by omega), Int.toNat_natCast, if_pos (by omega), if_pos (by rw [mat_len]; omega), mat_snoc _ _ _ (fun j hj => by unfold G; rw [if_neg (by omega)])]
    rfl
theorem raWays_ev : Ev (fun k => Go.Proofs.Ytjidebaganmeoaa.spec_raWays.f k t l a b) (mat (a + 1) (b + 1) (A t l)) := by
  have := l0_ev (t := t) (l := l) ha hb (a + 1) 0 (by omega)
  exact this
end
end Go.Proofs.Ytjidebaganmeoaa.WaysP
