/- slices.Max over whole numbers, walked: the greatest of a list that isn't empty. -/
import Derived.Test.YtmijfimjlenmpaaQCMaxx0
namespace Go.Proofs.Ytmijfimjlenmpaa.QFnExactMostPoints
open Go.RowKit Go.Proofs.YtmijfimjlenmpaaW.PrintWords Go.Proofs.YtmijfimjlenmpaaW.PrintLast Go.Proofs.YtmijfimjlenmpaaW.PrintMore
attribute [local go_sem] max2_int min2_int max_two min_two max_three min_three max_four min_four   -- for this text's walks alone
set_option linter.unusedVariables false
set_option linter.unusedSimpArgs false
def maxL : Nat → List Int → Int → Int → Option Int
  | 0, _, _, _ => none
  | k + 1, x0, x3, x4 => if x4 < (x0.length : Int) then (if 0 ≤ x4 then (maxL k x0 (mx x3 (rd x0 x4)) (wrap64 (x4 + 1))) else (none)) else (some x3)
set_option maxHeartbeats 8000000 in
set_option maxRecDepth 100000 in
theorem max.walk (k : Nat) (A0 : Option Addr) (c0 : Nat) (l0 : List Int) (r : Int) (w : World) (hr0 : Kd.C (Kd.int .i64) w A0 l0.length l0) (hc0 : l0.length ≤ c0) (hn : 0 < l0.length) (h : maxL k l0 (rd l0 0) 1 = some r) :
    Calls Try.prog 39 #[.slice A0 l0.length c0] w fun e w' => e = .returned (.int .i64 r) ∧ w = w' := by
  have HR0 := Aside0.mk hr0
  have HC0 := Aside0.mk hc0
  clear hr0 hc0
  have H' := Aside0.mk h
  clear h
  have c3b0 : decide ((l0.length : Int) < 1) = false := decide_eq_false (by omega)
  have c3b1 : decide (l0.length < 1) = false := decide_eq_false (by omega)
  have c6b0 : decide (0 < (l0.length : Int)) = true := decide_eq_true (by omega)
  have c6b1 : decide (0 < l0.length) = true := decide_eq_true (by omega)
  have p102 : 0 ≤ (0 : Int) := (by omega)
  have q102 : 0 < (l0.length : Int) := of_decide_eq_true (by first | (with_reducible assumption) | assumption)
  obtain ⟨ad102, e102, hx102_0⟩ := Kd.at_int HR0.out 0 p102 q102
  cases e102
  have qi102 : (0 < l0.length) = True := eq_true (by omega)
  (try rw [show ((0 : Int)).toNat = 0 from rfl] at hx102_0)
  (try rw [Addr.add_zero'] at hx102_0)
  replace p102 := eq_true p102
  replace q102 := eq_true q102
  clear hn
  go_enter Try.func39, Try.ntmps39
  go_wp2
  go_loopg [3, 4] k (fun kq v3 v4 w' => ∃ (x3_2 : Int) (x4_2 : Int), v3 = .int .i64 x3_2 ∧ v4 = .int .i64 x4_2 ∧ Aside0 (maxL kq l0 x3_2 x4_2 = some r) ∧ Aside0 (kq ≤ k) ∧ w' = w)
  case atStart => exact ⟨(rd l0 0), (1), (by first | rfl | (simp; done) | (simp [*]; done)), (by first | rfl | (simp; done) | (simp [*]; done)), H', ⟨Nat.le_refl _⟩, rfl⟩
  case round =>
    clear H'
    try clear c3b0
    try clear c3b1
    try clear c6b0
    try clear c6b1
    try clear hx102_0
    try clear p102
    try clear q102
    try clear qi102
    obtain ⟨x3_2, x4_2, rfl, rfl, HA, HK2, rfl⟩ := hrel
    cases gk with
    | zero => exact absurd HA.out (by simp [maxL])
    | succ k2 =>
      have H := HA.out
      clear HA
      simp only [maxL] at H
      by_cases c7 : x4_2 < (l0.length : Int)
      · rw [if_pos c7] at H
        have c7b0 : decide (x4_2 < (l0.length : Int)) = true := decide_eq_true c7
        clear c7
        by_cases c8 : 0 ≤ x4_2
        · rw [if_pos c8] at H
          have c8b0 : decide (0 ≤ x4_2) = true := decide_eq_true c8
          clear c8
          obtain ⟨ji9, hji9⟩ : ∃ j_ : Int, (mx x3_2 (rd l0 x4_2)) = j_ := ⟨_, rfl⟩
          replace H : (maxL k2 l0 ji9 (wrap64 (x4_2 + 1))) = some r := by first | (rw [hji9] at H; exact H) | (simp only [hji9] at H ⊢; exact H)
          have hji9_ : (if x3_2 < (rd l0 x4_2) then (rd l0 x4_2) else x3_2) = ji9 := hji9
          have H' := Aside0.mk H
          clear H
          have p103 : 0 ≤ (x4_2 : Int) := of_decide_eq_true (by first | (with_reducible assumption) | assumption)
          have q103 : x4_2 < (l0.length : Int) := of_decide_eq_true (by first | (with_reducible assumption) | assumption)
          obtain ⟨ad103, e103, hx103_0⟩ := Kd.at_int HR0.out x4_2 p103 q103
          obtain rfl : ad102 = ad103 := (by injection e103)
          replace p103 := eq_true p103
          replace q103 := eq_true q103
          go_wp2
          go_roundg k2
          case measure => have := HK2.out; omega
          case rel => exact ⟨(ji9), (wrap64 (x4_2 + 1)), (by first | rfl | (simp; done) | (simp only [← hji9] <;> (first | rfl | simp)) | (simp [*]; done)), (by first | rfl | (simp; done) | (simp [*]; done)), H', ⟨by have := HK2.out; omega⟩, rfl⟩
        · rw [if_neg c8] at H
          exact absurd H (by simp)
      · rw [if_neg c7] at H
        have c7b0 : decide (x4_2 < (l0.length : Int)) = false := decide_eq_false c7
        clear c7
        obtain rfl := Option.some.inj H
        go_wp2
        go_ret
        exact ⟨rfl, rfl⟩
/-- The greatest from i on, or m. -/
def mxl (m : Int) : List Int → Int
  | [] => m
  | x :: xs => mxl (mx m x) xs
theorem maxL_ev (l : List Int) (hl : l.length ≤ 9223372036854775807) (d : Nat) : ∀ (i : Nat) (m : Int), i + d = l.length → maxL (d + 1) l m (i : Int) = some (mxl m (l.drop i)) := by
  induction d with
  | zero =>
    intro i m hi
    unfold maxL
    rw [if_neg (by omega), List.drop_of_length_le (by omega)]
    rfl
  | succ d ih =>
    intro i m hi
    have hlt : i < l.length := by omega
    have hr : rd l (i : Int) = l[i] := by unfold rd; simp [List.getD_eq_getElem?_getD, List.getElem?_eq_getElem hlt]
    have hw : wrap64 ((i : Int) + 1) = ((i + 1 : Nat) : Int) := by unfold wrap64; omega
    unfold maxL
    rw [if_pos (by omega), if_pos (by omega), hw, ih (i + 1) _ (by omega), List.drop_eq_getElem_cons hlt, hr]
    rfl
theorem max.calls (A0 : Option Addr) (c0 : Nat) (l0 : List Int) (w : World) (hr0 : Kd.C (Kd.int .i64) w A0 l0.length l0) (hc0 : l0.length ≤ c0) (hn : 0 < l0.length) :
    Calls Try.prog 39 #[.slice A0 l0.length c0] w fun e w' => e = .returned (.int .i64 (mxl (rd l0 0) (l0.drop 1))) ∧ ∃ n, w' = w.drewN n :=
  (max.walk (l0.length - 1 + 1) A0 c0 l0 _ w hr0 hc0 hn (maxL_ev l0 (by have := hr0.2.1; omega) (l0.length - 1) 1 (rd l0 0) (by omega))).mono (fun e w' h => ⟨h.1, 0, h.2.symm⟩)
end Go.Proofs.Ytmijfimjlenmpaa.QFnExactMostPoints
