/- impl.areDarts: are all darts? The closure, slices.IndexFunc and slices.ContainsFunc at it. -/
import Derived.Test.YtacmfgbeaoalfaacGSco
import Derived.Lib.SliceRun
namespace Go.Proofs.Ytacmfgbeaoalfaa.QFnDartsFinish
open Go.RowKit Go.Proofs.YtacmfgbeaoalfaaW.PrintWords Go.Proofs.YtacmfgbeaoalfaaW.PrintLast Go.Proofs.YtacmfgbeaoalfaaW.PrintMore
set_option linter.unusedVariables false
set_option linter.unusedSimpArgs false
def isD (x : S43) : Bool := (decide (1 ≤ x.f0 ∧ x.f0 ≤ 20) && decide (1 ≤ x.f1 ∧ x.f1 ≤ 3)) || (decide (x.f0 = 25) && decide (1 ≤ x.f1 ∧ x.f1 ≤ 2))
theorem within_ev (x a b : Int) : impl_within.f x a b = some (decide (a ≤ x ∧ x ≤ b)) := by
  unfold impl_within.f
  by_cases h1 : a ≤ x <;> by_cases h2 : x ≤ b <;> simp [h1, h2]
theorem isD_ev (x : S43) : impl_IsDart.f x.f0 x.f1 = some (isD x) := by
  unfold impl_IsDart.f isD
  simp only [within_ev, Option.bind_some]
  by_cases h0 : x.f0 = 25
  · have n0 : ¬ (1 ≤ x.f0 ∧ x.f0 ≤ 20) := by omega
    simp [h0]
  · by_cases h1 : 1 ≤ x.f0 ∧ x.f0 ≤ 20 <;> by_cases h2 : 1 ≤ x.f1 ∧ x.f1 ≤ 3 <;> simp [h0, h1, h2]
set_option maxHeartbeats 8000000 in
set_option maxRecDepth 100000 in
theorem closD.calls (x : S43) (w : World) :
    Calls Try.prog 63 #[.agg #[.int .i64 x.f0, .int .i64 x.f1]] w fun e w' => e = .returned (.bool (!isD x)) ∧ Below w.heap.size w w' := by
  have hu43 := Try.underlying43
  have HB := Aside0.mk (Below.refl w.heap.size w)
  go_enter Try.func63, Try.ntmps63
  go_wp2_with (go_at_call 47; refine (impl_IsDart.calls x.f0 x.f1 (isD x) _ (isD_ev x)).mono ?_; rintro e w9 ⟨rfl, hB9⟩; have HB9 := Aside0.mk (below_step (by repeat (first | exact HB.out | apply below_alloc | apply pw_below_drewN | apply below_drew1)) hB9); clear hB9)
  go_ret
  exact ⟨rfl, HB9.out⟩
def ixD : Nat → List S43 → Int → Option Int
  | 0, _, _ => none
  | k + 1, l, i => if i < (l.length : Int) then (if 0 ≤ i then (if (!isD (rd_T43 l i)) = true then some i else ixD k l (wrap64 (i + 1))) else none) else some (-1)
set_option maxHeartbeats 8000000 in
set_option maxRecDepth 100000 in
theorem indexD.calls (k : Nat) (A0 : Option Addr) (c0 : Nat) (l0 : List S43) (r : Int) (w : World)
    (hr0 : Kd.C k43 w A0 l0.length l0) (hc0 : l0.length ≤ c0) (h : ixD k l0 0 = some r) :
    Calls Try.prog 67 #[.slice A0 l0.length c0, .func (Fn.func 63) #[] #[]] w fun e w' => e = .returned (.int .i64 r) ∧ Below w.heap.size w w' := by
  have HR0 := Aside0.mk hr0
  have HC0 := Aside0.mk hc0
  clear hr0 hc0
  have HB := Aside0.mk (Below.refl w.heap.size w)
  have H' := Aside0.mk h
  clear h
  go_enter Try.func67, Try.ntmps67
  go_wp2
  go_loopg [8] k (fun kq v8 w' => ∃ (x8_1 : Int), v8 = .int .i64 x8_1 ∧ Aside0 (ixD kq l0 x8_1 = some r) ∧ Aside0 (kq ≤ k) ∧ Aside0 (Below w.heap.size w w'))
  case atStart => exact ⟨(0), (by first | rfl | (simp; done) | (simp [*]; done)), H', ⟨Nat.le_refl _⟩, ⟨HB.out⟩⟩
  case round =>
    clear H'
    obtain ⟨x8_1, rfl, HA, HK1, HB⟩ := hrel
    cases gk with
    | zero => exact absurd HA.out (by simp [ixD])
    | succ k1 =>
      have H := HA.out
      clear HA
      simp only [ixD] at H
      by_cases c3 : x8_1 < (l0.length : Int)
      · rw [if_pos c3] at H
        have c3b0 : decide (x8_1 < (l0.length : Int)) = true := decide_eq_true c3
        clear c3
        by_cases c4 : 0 ≤ x8_1
        · rw [if_pos c4] at H
          have c4b0 : decide (0 ≤ x8_1) = true := decide_eq_true c4
          clear c4
          have p5 : 0 ≤ (x8_1 : Int) := of_decide_eq_true (by first | (with_reducible assumption) | assumption)
          have q5 : x8_1 < (l0.length : Int) := of_decide_eq_true (by first | (with_reducible assumption) | assumption)
          obtain ⟨ad5, e5, hx5_0, hx5_1⟩ := at_T43 (Kd.C_below HR0.out HB.out) x8_1 p5 q5
          cases e5
          replace p5 := eq_true p5
          replace q5 := eq_true q5
          by_cases c6 : (!isD (rd_T43 l0 x8_1)) = true
          · rw [if_pos c6] at H
            obtain rfl := Option.some.inj H
            have C6 := Aside0.mk c6
            clear c6
            go_wp2_with (go_at_call 63; refine (closD.calls (rd_T43 l0 x8_1) wr).mono ?_; rw [C6.out]; rintro e w9 ⟨rfl, hB9⟩; have HB9 := Aside0.mk (below_step HB.out hB9); clear hB9)
            go_ret
            exact ⟨rfl, HB9.out⟩
          · rw [if_neg c6] at H
            have H' := Aside0.mk H
            clear H
            have C6 := Aside0.mk (Bool.eq_false_iff.mpr c6)
            clear c6
            go_wp2_with (go_at_call 63; refine (closD.calls (rd_T43 l0 x8_1) wr).mono ?_; rw [C6.out]; rintro e w9 ⟨rfl, hB9⟩; have HB9 := Aside0.mk (below_step HB.out hB9); clear hB9)
            go_roundg k1
            case measure => have := HK1.out; omega
            case rel => exact ⟨(wrap64 (x8_1 + 1)), (by first | rfl | (simp; done) | (simp [*]; done)), H', ⟨by have := HK1.out; omega⟩, HB9⟩
        · rw [if_neg c4] at H
          exact absurd H (by simp)
      · rw [if_neg c3] at H
        have c3b0 : decide (x8_1 < (l0.length : Int)) = false := decide_eq_false c3
        clear c3
        obtain rfl := Option.some.inj H
        go_wp2
        go_ret
        exact ⟨rfl, HB.out⟩
theorem ixD_ev (l : List S43) (hl : l.length ≤ 9223372036854775807) (d : Nat) : ∀ i : Nat, i + d = l.length → ∃ r, ixD (d + 1) l (i : Int) = some r ∧ (decide (0 ≤ r) = (l.drop i).any fun s => !isD s) := by
  induction d with
  | zero =>
    intro i hi
    refine ⟨-1, ?_, ?_⟩
    · unfold ixD
      rw [if_neg (by omega)]
    · rw [List.drop_of_length_le (by omega)]
      rfl
  | succ d ih =>
    intro i hi
    have hlt : i < l.length := by omega
    have hr : rd_T43 l (i : Int) = l[i] := by unfold rd_T43; simp [List.getD_eq_getElem?_getD, List.getElem?_eq_getElem hlt]
    unfold ixD
    rw [if_pos (by omega), if_pos (by omega), hr, List.drop_eq_getElem_cons hlt, List.any_cons]
    by_cases c : (!isD l[i]) = true
    · refine ⟨i, by rw [if_pos c], ?_⟩
      rw [c, Bool.true_or]
      exact decide_eq_true (by omega)
    · obtain ⟨r, h1, h2⟩ := ih (i + 1) (by omega)
      have hw : wrap64 ((i : Int) + 1) = ((i + 1 : Nat) : Int) := by unfold wrap64; omega
      refine ⟨r, by rw [if_neg c, hw, h1], ?_⟩
      rw [Bool.eq_false_iff.mpr c, Bool.false_or]
      exact h2
set_option maxHeartbeats 8000000 in
set_option maxRecDepth 100000 in
theorem containsD.calls (A0 : Option Addr) (c0 : Nat) (l0 : List S43) (w : World)
    (hr0 : Kd.C k43 w A0 l0.length l0) (hc0 : l0.length ≤ c0) :
    Calls Try.prog 62 #[.slice A0 l0.length c0, .func (Fn.func 63) #[] #[]] w fun e w' => e = .returned (.bool (l0.any fun s => !isD s)) ∧ Below w.heap.size w w' := by
  obtain ⟨x, hx, hxr⟩ := ixD_ev l0 hr0.2.1 l0.length 0 (by omega)
  rw [List.drop_zero] at hxr
  obtain ⟨r, hr⟩ : ∃ r, r = l0.any fun s => !isD s := ⟨_, rfl⟩
  rw [← hr] at hxr ⊢
  have HX := Aside0.mk (indexD.calls (l0.length + 1) A0 c0 l0 x w hr0 hc0 hx)
  clear hr0 hc0 hx hr
  subst hxr
  go_enter Try.func62, Try.ntmps62
  go_wp2_with fail
  refine HX.out.mono ?_
  rintro e w9 ⟨rfl, hB9⟩
  have HB9 := Aside0.mk hB9
  clear hB9 HX
  go_wp2
  go_ret
  exact ⟨by first | rfl | (simp; done) | (simp [Int.not_lt]; done), HB9.out⟩
def impl_areDarts.f (l : List S43) : Option Bool := if l.length ≤ 1000000 then some (l.all isD) else none
set_option maxHeartbeats 8000000 in
set_option maxRecDepth 100000 in
theorem impl_areDarts.calls (A0 : Option Addr) (c0 : Nat) (l0 : List S43) (r : Bool) (w : World) (hr0 : Kd.C k43 w A0 l0.length l0) (hc0 : l0.length ≤ c0) (h : impl_areDarts.f l0 = some r) :
    Calls Try.prog 56 #[.slice A0 l0.length c0] w fun e w' => e = .returned (.bool r) ∧ Below w.heap.size w w' := by
  have hr : (l0.any fun s => !isD s) = !r := by
    unfold impl_areDarts.f at h
    split at h
    · rw [← Option.some.inj h, List.all_eq_not_any_not, Bool.not_not]
    · cases h
  have HX := Aside0.mk (containsD.calls A0 c0 l0 w hr0 hc0)
  rw [hr] at HX
  clear hr0 hc0 hr h
  go_enter Try.func56, Try.ntmps56
  go_wp2_with (go_at_call 62; refine HX.out.mono ?_; rintro e w9 ⟨rfl, hB9⟩; have HB9 := Aside0.mk hB9; clear hB9)
  go_ret
  exact ⟨by simp, HB9.out⟩
end Go.Proofs.Ytacmfgbeaoalfaa.QFnDartsFinish
