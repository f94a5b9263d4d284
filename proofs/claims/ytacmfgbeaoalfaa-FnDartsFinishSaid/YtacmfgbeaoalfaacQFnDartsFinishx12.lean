/- Functions of this law, printed out of the translation: what each computes, and that its code answers so. No condition. -/
import Derived.Test.YtacmfgbeaoalfaacQFnDartsFinishx0
import Derived.Test.YtacmfgbeaoalfaacQFnDartsFinishx2
import Derived.Test.YtacmfgbeaoalfaacQFnDartsFinishx3
import Derived.Test.YtacmfgbeaoalfaacQFnDartsFinishx5
import Derived.Test.YtacmfgbeaoalfaacQFnDartsFinishx6
import Derived.Test.YtacmfgbeaoalfaacQFnDartsFinishx7
import Derived.Test.YtacmfgbeaoalfaacGFw
import Derived.Test.YtacmfgbeaoalfaacGQ
namespace Go.Proofs.Ytacmfgbeaoalfaa.QFnDartsFinish
open Go.RowKit Go.Proofs.YtacmfgbeaoalfaaW.PrintWords Go.Proofs.YtacmfgbeaoalfaaW.PrintLast Go.Proofs.YtacmfgbeaoalfaaW.PrintMore Go.Proofs.Ytacmfgbeaoalfaa.Sh
attribute [local go_sem] max2_int min2_int max_two min_two max_three min_three max_four min_four
set_option linter.unusedVariables false
set_option linter.unusedSimpArgs false
def impl_HighestFinish.l0 : Nat → Int → List Int → Int → Option (Int × Bool)
 | 0, _, _, _ => none
 | k + 1, x0, x4, x5 => if x5 > 0 then (if 0 ≤ x5 then (if x5 < (x4.length : Int) then ((impl_within.f (rd x4 x5) 1 x0).bind fun t375 => (if t375 = true then (some (x5, true)) else (impl_HighestFinish.l0 k x0 x4 (wrap64 (x5 - 1))))) else (none)) else (none)) else (some (0, false))
def impl_HighestFinish.f (k : Nat) (a0 : Int) : Option (Int × Bool) := (impl_isFew.f a0).bind fun t370 => (if t370 = true then ((impl_fewest.f true).bind fun t371 => (impl_HighestFinish.l0 k a0 t371 1001)) else (some (0, false)))
set_option maxHeartbeats 8000000 in
set_option maxRecDepth 100000 in
theorem impl_HighestFinish.calls (k : Nat) (a0 : Int) (r1 : Int) (r2 : Bool) (w : World) (h : impl_HighestFinish.f k a0 = some (r1, r2)) :
  Calls Try.prog 29 #[.int .i64 a0] w fun e w' => e = .returned (.tuple #[.int .i64 r1, .bool r2]) ∧ Below w.heap.size w w' := by
 have HB := a_ (Below.refl w.heap.size w); have H : ((impl_isFew.f a0).bind fun t370 => (if t370 = true then ((impl_fewest.f true).bind fun t371 => (impl_HighestFinish.l0 k a0 t371 1001)) else (some (0, false)))) = some (r1, r2) := h; clear h; replace H := Option.bind_eq_some_iff.mp H; obtain ⟨t370, A20, H⟩ := H; replace H : (if t370 = true then ((impl_fewest.f true).bind fun t371 => (impl_HighestFinish.l0 k a0 t371 1001)) else (some (0, false))) = some (r1, r2) := H; have A2 := a_ A20; clear A20
 by_cases c3 : t370 = true
 ·
  subst c3; have H1 : ((impl_fewest.f true).bind fun t371 => (impl_HighestFinish.l0 k a0 t371 1001)) = some (r1, r2) := by rw [if_pos rfl] at H; exact H
  clear H; have H := H1; clear H1; replace H := Option.bind_eq_some_iff.mp H; obtain ⟨t371, A40, H⟩ := H; replace H : (impl_HighestFinish.l0 k a0 t371 1001) = some (r1, r2) := H; have A4 := a_ A40; clear A40; have H' := a_ H; clear H
  go_enter Try.func29, Try.ntmps29
  go_wp2_with (first | ((with_reducible refine gate_callee (f := 42) rfl ?_); refine goesL_ (some 7) rfl rfl Try.func42 t1_ rfl #[.int .i64 a0] rfl (by (try simp only [m1_, m2_, m3_]); first | done | rfl) ?_; (with_reducible refine (impl_isFew.calls a0 true _ A2.out).mono ?_); rintro e w' ⟨rfl, ⟨nd, rfl⟩⟩; refine ⟨_, rfl, ?_⟩) | ((with_reducible refine gate_callee (f := 34) rfl ?_); refine goesL_ (some 9) rfl rfl Try.func34 t1_ rfl #[.bool true] rfl (by (try simp only [m1_, m2_, m3_]); first | done | rfl) ?_; (with_reducible refine (impl_fewest.calls true t371 _ A4.out).mono ?_); rintro e w5 ⟨v372, rfl, ho0, hb⟩; refine ⟨_, rfl, ?_⟩; have n0_ := a_ (Kd.R_lower ho0 (below_size (L_ HB.out (Nat.le_refl _) (Nat.le_refl _) (Nat.le_refl _)))); have n1_ := a_ (below_step (L_ HB.out (Nat.le_refl _) (Nat.le_refl _) (Nat.le_refl _)) hb); clear HB; have HO373 := n0_; have HB := n1_; clear n0_ n1_; (try clear hb); (try clear hb2); (try clear hk); (try clear hi); (try clear ho0)))
  go_loopg [5] k (fun kq v5 w' => ∃ (x5_1 : Int), v5 = .int .i64 x5_1 ∧ Aside0 (impl_HighestFinish.l0 kq a0 t371 x5_1 = some (r1, r2)) ∧ Aside0 (kq ≤ k) ∧ Aside0 (Kd.R (Kd.int .i64) 3 w' w.heap.size (fun _ => True) v372 t371) ∧ Aside0 (Below w.heap.size w w'))
  case atStart => exact ⟨(1001), t2_, H', ⟨Nat.le_refl _⟩, ⟨R_ HO373.out⟩, ⟨L_ HB.out (Nat.le_refl _) (Nat.le_refl _) (Nat.le_refl _)⟩⟩
  case round =>
   clear H'; obtain ⟨x5_1, rfl, HA, HK1, HO_4, HB⟩ := hrel
   cases gk with
   | zero => exact absurd HA.out (by simp [impl_HighestFinish.l0])
   | succ k1 =>
    have H := HA.out; clear HA; simp only [impl_HighestFinish.l0] at H
    by_cases c6 : x5_1 > 0
    ·
     rw [if_pos c6] at H; have c6b0 : decide (0 < x5_1) = true := decide_eq_true c6; clear c6
     by_cases c7 : 0 ≤ x5_1
     ·
      rw [if_pos c7] at H; have c7b0 : decide (0 ≤ x5_1) = true := decide_eq_true c7; clear c7
      by_cases c8 : x5_1 < (t371.length : Int)
      ·
       rw [if_pos c8] at H; have c8b0 : decide (x5_1 < (t371.length : Int)) = true := decide_eq_true c8; clear c8; replace H := Option.bind_eq_some_iff.mp H; obtain ⟨t375, A90, H⟩ := H; replace H : (if t375 = true then (some (x5_1, true)) else (impl_HighestFinish.l0 k1 a0 t371 (wrap64 (x5_1 - 1)))) = some (r1, r2) := H; have A9 := a_ A90; clear A90
       by_cases c10 : t375 = true
       ·
        subst c10; have H1 : (some (x5_1, true)) = some (r1, r2) := by rw [if_pos rfl] at H; exact H
        clear H; have H := H1; clear H1; simp only [Option.some.injEq, Prod.mk.injEq] at H; obtain ⟨rfl, rfl⟩ := H; obtain ⟨Ao11, co11, eo11⟩ := Kd.R_slice HO_4.out; subst eo11; have p374 : 0 ≤ (x5_1 : Int) := of_decide_eq_true t0_; have q374 : x5_1 < (t371.length : Int) := of_decide_eq_true t0_; obtain ⟨ad374, e374, hx374_0⟩ := Kd.at_int (Kd.R_reads' HO_4.out).2.2 x5_1 p374 q374
        cases e374
        replace p374 := eq_true p374; replace q374 := eq_true q374
        go_wp2_with (first | ((with_reducible refine gate_callee (f := 41) rfl ?_); refine goesL_ (some 19) rfl rfl Try.func41 t1_ rfl #[.int .i64 (rd t371 x5_1), .int .i64 1, .int .i64 a0] rfl (by (try simp only [m1_, m2_, m3_]); first | done | rfl) ?_; (with_reducible refine (impl_within.calls (rd t371 x5_1) 1 a0 true _ A9.out).mono ?_); rintro e w' ⟨rfl, ⟨nd, rfl⟩⟩; refine ⟨_, rfl, ?_⟩))
        go_ret2
        exact ⟨by first | rfl | (simp [errW_none, errW_some] <;> rfl) | (simp [*, errW_none, errW_some] <;> rfl), by repeat (first | (with_reducible first | exact HB.out | apply below_alloc | apply pw_below_drewN | apply below_drew1) | exact HB.out)⟩
       ·
        replace c10 := Bool.eq_false_iff.mpr c10; subst c10; have H1 : (impl_HighestFinish.l0 k1 a0 t371 (wrap64 (x5_1 - 1))) = some (r1, r2) := by rw [if_neg (show ¬ (false = true) by decide)] at H; exact H
        clear H; have H := H1; clear H1; have H' := a_ H; clear H; obtain ⟨Ao12, co12, eo12⟩ := Kd.R_slice HO_4.out; subst eo12; have p374 : 0 ≤ (x5_1 : Int) := of_decide_eq_true t0_; have q374 : x5_1 < (t371.length : Int) := of_decide_eq_true t0_; obtain ⟨ad374, e374, hx374_0⟩ := Kd.at_int (Kd.R_reads' HO_4.out).2.2 x5_1 p374 q374
        cases e374
        replace p374 := eq_true p374; replace q374 := eq_true q374
        go_wp2_with (first | ((with_reducible refine gate_callee (f := 41) rfl ?_); refine goesL_ (some 19) rfl rfl Try.func41 t1_ rfl #[.int .i64 (rd t371 x5_1), .int .i64 1, .int .i64 a0] rfl (by (try simp only [m1_, m2_, m3_]); first | done | rfl) ?_; (with_reducible refine (impl_within.calls (rd t371 x5_1) 1 a0 false _ A9.out).mono ?_); rintro e w' ⟨rfl, ⟨nd, rfl⟩⟩; refine ⟨_, rfl, ?_⟩))
        go_roundg k1
        case measure => have := HK1.out; omega
        case rel => exact ⟨(wrap64 (x5_1 - 1)), t2_, H', ⟨t52_⟩, ⟨R_ HO_4.out⟩, ⟨L_ HB.out (Nat.le_refl _) (Nat.le_refl _) (Nat.le_refl _)⟩⟩
      ·
       rw [if_neg c8] at H
       exact absurd H t31_
     ·
      rw [if_neg c7] at H
      exact absurd H t31_
    ·
     rw [if_neg c6] at H; have c6b0 : decide (0 < x5_1) = false := decide_eq_false c6; clear c6; simp only [Option.some.injEq, Prod.mk.injEq] at H; obtain ⟨rfl, rfl⟩ := H
     go_wp2
     go_ret2
     exact ⟨by first | rfl | (simp [errW_none, errW_some] <;> rfl) | (simp [*, errW_none, errW_some] <;> rfl), by repeat (first | (with_reducible first | exact HB.out | apply below_alloc | apply pw_below_drewN | apply below_drew1) | exact HB.out)⟩
 ·
  replace c3 := Bool.eq_false_iff.mpr c3; subst c3; have H1 : (some (0, false)) = some (r1, r2) := by rw [if_neg (show ¬ (false = true) by decide)] at H; exact H
  clear H; have H := H1; clear H1; simp only [Option.some.injEq, Prod.mk.injEq] at H; obtain ⟨rfl, rfl⟩ := H
  go_enter Try.func29, Try.ntmps29
  go_wp2_with (first | ((with_reducible refine gate_callee (f := 42) rfl ?_); refine goesL_ (some 7) rfl rfl Try.func42 t1_ rfl #[.int .i64 a0] rfl (by (try simp only [m1_, m2_, m3_]); first | done | rfl) ?_; (with_reducible refine (impl_isFew.calls a0 false _ A2.out).mono ?_); rintro e w' ⟨rfl, ⟨nd, rfl⟩⟩; refine ⟨_, rfl, ?_⟩))
  go_ret2
  exact ⟨by first | rfl | (simp [errW_none, errW_some] <;> rfl) | (simp [*, errW_none, errW_some] <;> rfl), by repeat (first | (with_reducible first | exact HB.out | apply below_alloc | apply pw_below_drewN | apply below_drew1) | exact HB.out)⟩
def spec_HighestFinish.l0 : Nat → Int → Int → Option (Int × Bool)
 | 0, _, _ => none
 | k + 1, x0, x4 => (spec_daCan.f k x4 x0).bind fun t377 => (if t377 = true then (some (x4, true)) else (spec_HighestFinish.l0 k x0 (wrap64 (x4 - 1))))
def spec_HighestFinish.f (k : Nat) (a0 : Int) : Option (Int × Bool) := (spec_daDarts.f a0).bind fun t376 => (if t376 = true then (spec_HighestFinish.l0 k a0 180) else (some (0, false)))
set_option maxHeartbeats 8000000 in
set_option maxRecDepth 100000 in
theorem spec_HighestFinish.calls (k : Nat) (a0 : Int) (r1 : Int) (r2 : Bool) (w : World) (h : spec_HighestFinish.f k a0 = some (r1, r2)) :
  Calls Try.prog 30 #[.int .i64 a0] w fun e w' => e = .returned (.tuple #[.int .i64 r1, .bool r2]) ∧ Below w.heap.size w w' := by
 have HB := a_ (Below.refl w.heap.size w); have H : ((spec_daDarts.f a0).bind fun t376 => (if t376 = true then (spec_HighestFinish.l0 k a0 180) else (some (0, false)))) = some (r1, r2) := h; clear h; replace H := Option.bind_eq_some_iff.mp H; obtain ⟨t376, A20, H⟩ := H; replace H : (if t376 = true then (spec_HighestFinish.l0 k a0 180) else (some (0, false))) = some (r1, r2) := H; have A2 := a_ A20; clear A20
 by_cases c3 : t376 = true
 ·
  subst c3; have H1 : (spec_HighestFinish.l0 k a0 180) = some (r1, r2) := by rw [if_pos rfl] at H; exact H
  clear H; have H := H1; clear H1; have H' := a_ H; clear H
  go_enter Try.func30, Try.ntmps30
  go_wp2_with (first | ((with_reducible refine gate_callee (f := 38) rfl ?_); refine goesL_ (some 6) rfl rfl Try.func38 t1_ rfl #[.int .i64 a0] rfl (by (try simp only [m1_, m2_, m3_]); first | done | rfl) ?_; (with_reducible refine (spec_daDarts.calls a0 true _ A2.out).mono ?_); rintro e w' ⟨rfl, ⟨nd, rfl⟩⟩; refine ⟨_, rfl, ?_⟩))
  go_loopg [4] k (fun kq v4 w' => ∃ (x4_1 : Int), v4 = .int .i64 x4_1 ∧ Aside0 (spec_HighestFinish.l0 kq a0 x4_1 = some (r1, r2)) ∧ Aside0 (kq ≤ k) ∧ Aside0 (Below w.heap.size w w'))
  case atStart => exact ⟨(180), t2_, H', ⟨Nat.le_refl _⟩, ⟨L_ HB.out (Nat.le_refl _) (Nat.le_refl _) (Nat.le_refl _)⟩⟩
  case round =>
   clear H'; obtain ⟨x4_1, rfl, HA, HK1, HB⟩ := hrel
   cases gk with
   | zero => exact absurd HA.out (by simp [spec_HighestFinish.l0])
   | succ k1 =>
    have H := HA.out; clear HA; simp only [spec_HighestFinish.l0] at H; replace H := Option.bind_eq_some_iff.mp H; obtain ⟨t377, A40, H⟩ := H; replace H : (if t377 = true then (some (x4_1, true)) else (spec_HighestFinish.l0 k1 a0 (wrap64 (x4_1 - 1)))) = some (r1, r2) := H; have A4 := a_ A40; clear A40
    by_cases c5 : t377 = true
    ·
     subst c5; have H1 : (some (x4_1, true)) = some (r1, r2) := by rw [if_pos rfl] at H; exact H
     clear H; have H := H1; clear H1; simp only [Option.some.injEq, Prod.mk.injEq] at H; obtain ⟨rfl, rfl⟩ := H
     go_wp2_with (first | ((with_reducible refine gate_callee (f := 43) rfl ?_); refine goesL_ (some 10) rfl rfl Try.func43 t1_ rfl #[.int .i64 x4_1, .int .i64 a0] rfl (by (try simp only [m1_, m2_, m3_]); first | done | rfl) ?_; (with_reducible refine (spec_daCan.calls k1 x4_1 a0 true _ A4.out).mono ?_); rintro e w6 ⟨rfl, hb⟩; refine ⟨_, rfl, ?_⟩; have n0_ := a_ (below_step (L_ HB.out (Nat.le_refl _) (Nat.le_refl _) (Nat.le_refl _)) hb); clear HB; have HB := n0_; clear n0_; (try clear hb); (try clear hb2); (try clear hk); (try clear hi)))
     go_ret2
     exact ⟨by first | rfl | (simp [errW_none, errW_some] <;> rfl) | (simp [*, errW_none, errW_some] <;> rfl), by repeat (first | (with_reducible first | exact HB.out | apply below_alloc | apply pw_below_drewN | apply below_drew1) | exact HB.out)⟩
    ·
     replace c5 := Bool.eq_false_iff.mpr c5; subst c5; have H1 : (spec_HighestFinish.l0 k1 a0 (wrap64 (x4_1 - 1))) = some (r1, r2) := by rw [if_neg (show ¬ (false = true) by decide)] at H; exact H
     clear H; have H := H1; clear H1; have H' := a_ H; clear H
     go_wp2_with (first | ((with_reducible refine gate_callee (f := 43) rfl ?_); refine goesL_ (some 10) rfl rfl Try.func43 t1_ rfl #[.int .i64 x4_1, .int .i64 a0] rfl (by (try simp only [m1_, m2_, m3_]); first | done | rfl) ?_; (with_reducible refine (spec_daCan.calls k1 x4_1 a0 false _ A4.out).mono ?_); rintro e w7 ⟨rfl, hb⟩; refine ⟨_, rfl, ?_⟩; have n0_ := a_ (below_step (L_ HB.out (Nat.le_refl _) (Nat.le_refl _) (Nat.le_refl _)) hb); clear HB; have HB := n0_; clear n0_; (try clear hb); (try clear hb2); (try clear hk); (try clear hi)))
     go_roundg k1
     case measure => have := HK1.out; omega
     case rel => exact ⟨(wrap64 (x4_1 - 1)), t2_, H', ⟨t52_⟩, ⟨L_ HB.out (Nat.le_refl _) (Nat.le_refl _) (Nat.le_refl _)⟩⟩
 ·
  replace c3 := Bool.eq_false_iff.mpr c3; subst c3; have H1 : (some (0, false)) = some (r1, r2) := by rw [if_neg (show ¬ (false = true) by decide)] at H; exact H
  clear H; have H := H1; clear H1; simp only [Option.some.injEq, Prod.mk.injEq] at H; obtain ⟨rfl, rfl⟩ := H
  go_enter Try.func30, Try.ntmps30
  go_wp2_with (first | ((with_reducible refine gate_callee (f := 38) rfl ?_); refine goesL_ (some 6) rfl rfl Try.func38 t1_ rfl #[.int .i64 a0] rfl (by (try simp only [m1_, m2_, m3_]); first | done | rfl) ?_; (with_reducible refine (spec_daDarts.calls a0 false _ A2.out).mono ?_); rintro e w' ⟨rfl, ⟨nd, rfl⟩⟩; refine ⟨_, rfl, ?_⟩))
  go_ret2
  exact ⟨by first | rfl | (simp [errW_none, errW_some] <;> rfl) | (simp [*, errW_none, errW_some] <;> rfl), by repeat (first | (with_reducible first | exact HB.out | apply below_alloc | apply pw_below_drewN | apply below_drew1) | exact HB.out)⟩
def impl_CountScores.l0 : Nat → Int → List Int → Int → Int → Option (Int × Bool)
 | 0, _, _, _, _ => none
 | k + 1, x4, x11, x12, x13 => if x13 < x12 then (if 0 ≤ x13 then (if x13 < (x11.length : Int) then (if (rd x11 x13) > 0 then (impl_CountScores.l0 k (wrap64 (x4 + 1)) x11 x12 (wrap64 (x13 + 1))) else (impl_CountScores.l0 k x4 x11 x12 (wrap64 (x13 + 1)))) else (none)) else (none)) else (some (x4, true))
def impl_CountScores.f (k : Nat) (a0 : Int) : Option (Int × Bool) := (impl_isFew.f a0).bind fun t378 => (if t378 = true then ((impl_waysTo.f k a0 false).bind fun t379 => (impl_CountScores.l0 k 0 t379 (t379.length : Int) 0)) else (some (0, false)))
set_option maxHeartbeats 8000000 in
set_option maxRecDepth 100000 in
theorem impl_CountScores.calls (k : Nat) (a0 : Int) (r1 : Int) (r2 : Bool) (w : World) (h : impl_CountScores.f k a0 = some (r1, r2)) :
  Calls Try.prog 31 #[.int .i64 a0] w fun e w' => e = .returned (.tuple #[.int .i64 r1, .bool r2]) ∧ Below w.heap.size w w' := by
 have HB := a_ (Below.refl w.heap.size w); have H : ((impl_isFew.f a0).bind fun t378 => (if t378 = true then ((impl_waysTo.f k a0 false).bind fun t379 => (impl_CountScores.l0 k 0 t379 (t379.length : Int) 0)) else (some (0, false)))) = some (r1, r2) := h; clear h; replace H := Option.bind_eq_some_iff.mp H; obtain ⟨t378, A20, H⟩ := H; replace H : (if t378 = true then ((impl_waysTo.f k a0 false).bind fun t379 => (impl_CountScores.l0 k 0 t379 (t379.length : Int) 0)) else (some (0, false))) = some (r1, r2) := H; have A2 := a_ A20; clear A20
 by_cases c3 : t378 = true
 ·
  subst c3; have H1 : ((impl_waysTo.f k a0 false).bind fun t379 => (impl_CountScores.l0 k 0 t379 (t379.length : Int) 0)) = some (r1, r2) := by rw [if_pos rfl] at H; exact H
  clear H; have H := H1; clear H1; replace H := Option.bind_eq_some_iff.mp H; obtain ⟨t379, A40, H⟩ := H; replace H : (impl_CountScores.l0 k 0 t379 (t379.length : Int) 0) = some (r1, r2) := H; have A4 := a_ A40; clear A40; have H' := a_ H; clear H
  go_enter Try.func31, Try.ntmps31
  go_wp2_with (first | ((with_reducible refine gate_callee (f := 42) rfl ?_); refine goesL_ (some 8) rfl rfl Try.func42 t1_ rfl #[.int .i64 a0] rfl (by (try simp only [m1_, m2_, m3_]); first | done | rfl) ?_; (with_reducible refine (impl_isFew.calls a0 true _ A2.out).mono ?_); rintro e w' ⟨rfl, ⟨nd, rfl⟩⟩; refine ⟨_, rfl, ?_⟩) | ((with_reducible refine gate_callee (f := 45) rfl ?_); refine goesL_ (some 11) rfl rfl Try.func45 t1_ rfl #[.int .i64 a0, .bool false] rfl (by (try simp only [m1_, m2_, m3_]); first | done | rfl) ?_; (with_reducible refine (impl_waysTo.calls k a0 false t379 _ A4.out).mono ?_); rintro e w5 ⟨v380, rfl, ho0, hb⟩; refine ⟨_, rfl, ?_⟩; have n0_ := a_ (Kd.R_lower ho0 (below_size (L_ HB.out (Nat.le_refl _) (Nat.le_refl _) (Nat.le_refl _)))); have n1_ := a_ (below_step (L_ HB.out (Nat.le_refl _) (Nat.le_refl _) (Nat.le_refl _)) hb); clear HB; have HO381 := n0_; have HB := n1_; clear n0_ n1_; (try clear hb); (try clear hb2); (try clear hk); (try clear hi); (try clear ho0); obtain ⟨Ao6, co6, eo6⟩ := Kd.R_slice HO381.out; subst eo6))
  go_loopg [4, 13] k (fun kq v4 v13 w' => ∃ (x4_1 : Int) (x13_1 : Int), v4 = .int .i64 x4_1 ∧ v13 = .int .i64 x13_1 ∧ Aside0 (impl_CountScores.l0 kq x4_1 t379 (t379.length : Int) x13_1 = some (r1, r2)) ∧ Aside0 (kq ≤ k) ∧ Aside0 (Kd.R (Kd.int .i64) 3 w' w.heap.size (fun _ => True) (.slice Ao6 t379.length co6) t379) ∧ Aside0 (Below w.heap.size w w'))
  case atStart => exact ⟨(0), (0), t2_, t2_, H', ⟨Nat.le_refl _⟩, ⟨R_ HO381.out⟩, ⟨L_ HB.out (Nat.le_refl _) (Nat.le_refl _) (Nat.le_refl _)⟩⟩
  case round =>
   clear H'; obtain ⟨x4_1, x13_1, rfl, rfl, HA, HK1, HO_11, HB⟩ := hrel
   cases gk with
   | zero => exact absurd HA.out (by simp [impl_CountScores.l0])
   | succ k1 =>
    have H := HA.out; clear HA; simp only [impl_CountScores.l0] at H
    by_cases c7 : x13_1 < (t379.length : Int)
    ·
     rw [if_pos c7] at H; have c7b0 : decide (x13_1 < (t379.length : Int)) = true := decide_eq_true c7; clear c7
     by_cases c8 : 0 ≤ x13_1
     ·
      rw [if_pos c8] at H; have c8b0 : decide (0 ≤ x13_1) = true := decide_eq_true c8; clear c8
      by_cases c9 : x13_1 < (t379.length : Int)
      ·
       rw [if_pos c9] at H; have c9b0 : decide (x13_1 < (t379.length : Int)) = true := decide_eq_true c9; clear c9
       by_cases c10 : (rd t379 x13_1) > 0
       ·
        rw [if_pos c10] at H; have c10b0 : decide (0 < (rd t379 x13_1)) = true := decide_eq_true c10; clear c10; have H' := a_ H; clear H; have p382 : 0 ≤ (x13_1 : Int) := of_decide_eq_true t0_; have q382 : x13_1 < (t379.length : Int) := of_decide_eq_true t0_; obtain ⟨ad382, e382, hx382_0⟩ := Kd.at_int (Kd.R_reads' HO_11.out).2.2 x13_1 p382 q382
        cases e382
        replace p382 := eq_true p382; replace q382 := eq_true q382
        go_wp2
        go_roundg k1
        case measure => have := HK1.out; omega
        case rel => exact ⟨(wrap64 (x4_1 + 1)), (wrap64 (x13_1 + 1)), t2_, t2_, H', ⟨t52_⟩, ⟨R_ HO_11.out⟩, ⟨L_ HB.out (Nat.le_refl _) (Nat.le_refl _) (Nat.le_refl _)⟩⟩
       ·
        rw [if_neg c10] at H; have c10b0 : decide (0 < (rd t379 x13_1)) = false := decide_eq_false c10; clear c10; have H' := a_ H; clear H; have p382 : 0 ≤ (x13_1 : Int) := of_decide_eq_true t0_; have q382 : x13_1 < (t379.length : Int) := of_decide_eq_true t0_; obtain ⟨ad382, e382, hx382_0⟩ := Kd.at_int (Kd.R_reads' HO_11.out).2.2 x13_1 p382 q382
        cases e382
        replace p382 := eq_true p382; replace q382 := eq_true q382
        go_wp2
        go_roundg k1
        case measure => have := HK1.out; omega
        case rel => exact ⟨(x4_1), (wrap64 (x13_1 + 1)), t2_, t2_, H', ⟨t52_⟩, ⟨R_ HO_11.out⟩, ⟨L_ HB.out (Nat.le_refl _) (Nat.le_refl _) (Nat.le_refl _)⟩⟩
      ·
       rw [if_neg c9] at H
       exact absurd H t31_
     ·
      rw [if_neg c8] at H
      exact absurd H t31_
    ·
     rw [if_neg c7] at H; have c7b0 : decide (x13_1 < (t379.length : Int)) = false := decide_eq_false c7; clear c7; simp only [Option.some.injEq, Prod.mk.injEq] at H; obtain ⟨rfl, rfl⟩ := H
     go_wp2
     go_ret2
     exact ⟨by first | rfl | (simp [errW_none, errW_some] <;> rfl) | (simp [*, errW_none, errW_some] <;> rfl), by repeat (first | (with_reducible first | exact HB.out | apply below_alloc | apply pw_below_drewN | apply below_drew1) | exact HB.out)⟩
 ·
  replace c3 := Bool.eq_false_iff.mpr c3; subst c3; have H1 : (some (0, false)) = some (r1, r2) := by rw [if_neg (show ¬ (false = true) by decide)] at H; exact H
  clear H; have H := H1; clear H1; simp only [Option.some.injEq, Prod.mk.injEq] at H; obtain ⟨rfl, rfl⟩ := H
  go_enter Try.func31, Try.ntmps31
  go_wp2_with (first | ((with_reducible refine gate_callee (f := 42) rfl ?_); refine goesL_ (some 8) rfl rfl Try.func42 t1_ rfl #[.int .i64 a0] rfl (by (try simp only [m1_, m2_, m3_]); first | done | rfl) ?_; (with_reducible refine (impl_isFew.calls a0 false _ A2.out).mono ?_); rintro e w' ⟨rfl, ⟨nd, rfl⟩⟩; refine ⟨_, rfl, ?_⟩))
  go_ret2
  exact ⟨by first | rfl | (simp [errW_none, errW_some] <;> rfl) | (simp [*, errW_none, errW_some] <;> rfl), by repeat (first | (with_reducible first | exact HB.out | apply below_alloc | apply pw_below_drewN | apply below_drew1) | exact HB.out)⟩
def spec_CountScores.l0 : Nat → Int → List Int → Int → Int → Option (Int × Bool)
 | 0, _, _, _, _ => none
 | k + 1, x4, x11, x12, x13 => if x13 < x12 then (if 0 ≤ x13 then (if x13 < (x11.length : Int) then (if (rd x11 x13) > 0 then (spec_CountScores.l0 k (wrap64 (x4 + 1)) x11 x12 (wrap64 (x13 + 1))) else (spec_CountScores.l0 k x4 x11 x12 (wrap64 (x13 + 1)))) else (none)) else (none)) else (some (x4, true))
def spec_CountScores.f (k : Nat) (a0 : Int) : Option (Int × Bool) := (spec_daDarts.f a0).bind fun t383 => (if t383 = true then ((spec_daCount.f k a0 180 false).bind fun t384 => (spec_CountScores.l0 k 0 t384 (t384.length : Int) 0)) else (some (0, false)))
set_option maxHeartbeats 8000000 in
set_option maxRecDepth 100000 in
theorem spec_CountScores.calls (k : Nat) (a0 : Int) (r1 : Int) (r2 : Bool) (w : World) (h : spec_CountScores.f k a0 = some (r1, r2)) :
  Calls Try.prog 32 #[.int .i64 a0] w fun e w' => e = .returned (.tuple #[.int .i64 r1, .bool r2]) ∧ Below w.heap.size w w' := by
 have HB := a_ (Below.refl w.heap.size w); have H : ((spec_daDarts.f a0).bind fun t383 => (if t383 = true then ((spec_daCount.f k a0 180 false).bind fun t384 => (spec_CountScores.l0 k 0 t384 (t384.length : Int) 0)) else (some (0, false)))) = some (r1, r2) := h; clear h; replace H := Option.bind_eq_some_iff.mp H; obtain ⟨t383, A20, H⟩ := H; replace H : (if t383 = true then ((spec_daCount.f k a0 180 false).bind fun t384 => (spec_CountScores.l0 k 0 t384 (t384.length : Int) 0)) else (some (0, false))) = some (r1, r2) := H; have A2 := a_ A20; clear A20
 by_cases c3 : t383 = true
 ·
  subst c3; have H1 : ((spec_daCount.f k a0 180 false).bind fun t384 => (spec_CountScores.l0 k 0 t384 (t384.length : Int) 0)) = some (r1, r2) := by rw [if_pos rfl] at H; exact H
  clear H; have H := H1; clear H1; replace H := Option.bind_eq_some_iff.mp H; obtain ⟨t384, A40, H⟩ := H; replace H : (spec_CountScores.l0 k 0 t384 (t384.length : Int) 0) = some (r1, r2) := H; have A4 := a_ A40; clear A40; have H' := a_ H; clear H
  go_enter Try.func32, Try.ntmps32
  go_wp2_with (first | ((with_reducible refine gate_callee (f := 38) rfl ?_); refine goesL_ (some 8) rfl rfl Try.func38 t1_ rfl #[.int .i64 a0] rfl (by (try simp only [m1_, m2_, m3_]); first | done | rfl) ?_; (with_reducible refine (spec_daDarts.calls a0 true _ A2.out).mono ?_); rintro e w' ⟨rfl, ⟨nd, rfl⟩⟩; refine ⟨_, rfl, ?_⟩) | ((with_reducible refine gate_callee (f := 46) rfl ?_); refine goesL_ (some 11) rfl rfl Try.func46 t1_ rfl #[.int .i64 a0, .int .i64 180, .bool false] rfl (by (try simp only [m1_, m2_, m3_]); first | done | rfl) ?_; (with_reducible refine (spec_daCount.calls k a0 180 false t384 _ A4.out).mono ?_); rintro e w5 ⟨v385, rfl, ho0, hb⟩; refine ⟨_, rfl, ?_⟩; have n0_ := a_ (Kd.R_lower ho0 (below_size (L_ HB.out (Nat.le_refl _) (Nat.le_refl _) (Nat.le_refl _)))); have n1_ := a_ (below_step (L_ HB.out (Nat.le_refl _) (Nat.le_refl _) (Nat.le_refl _)) hb); clear HB; have HO386 := n0_; have HB := n1_; clear n0_ n1_; (try clear hb); (try clear hb2); (try clear hk); (try clear hi); (try clear ho0); obtain ⟨Ao6, co6, eo6⟩ := Kd.R_slice HO386.out; subst eo6))
  go_loopg [4, 13] k (fun kq v4 v13 w' => ∃ (x4_1 : Int) (x13_1 : Int), v4 = .int .i64 x4_1 ∧ v13 = .int .i64 x13_1 ∧ Aside0 (spec_CountScores.l0 kq x4_1 t384 (t384.length : Int) x13_1 = some (r1, r2)) ∧ Aside0 (kq ≤ k) ∧ Aside0 (Kd.R (Kd.int .i64) 3 w' w.heap.size (fun _ => True) (.slice Ao6 t384.length co6) t384) ∧ Aside0 (Below w.heap.size w w'))
  case atStart => exact ⟨(0), (0), t2_, t2_, H', ⟨Nat.le_refl _⟩, ⟨R_ HO386.out⟩, ⟨L_ HB.out (Nat.le_refl _) (Nat.le_refl _) (Nat.le_refl _)⟩⟩
  case round =>
   clear H'; obtain ⟨x4_1, x13_1, rfl, rfl, HA, HK1, HO_11, HB⟩ := hrel
   cases gk with
   | zero => exact absurd HA.out (by simp [spec_CountScores.l0])
   | succ k1 =>
    have H := HA.out; clear HA; simp only [spec_CountScores.l0] at H
    by_cases c7 : x13_1 < (t384.length : Int)
    ·
     rw [if_pos c7] at H; have c7b0 : decide (x13_1 < (t384.length : Int)) = true := decide_eq_true c7; clear c7
     by_cases c8 : 0 ≤ x13_1
     ·
      rw [if_pos c8] at H; have c8b0 : decide (0 ≤ x13_1) = true := decide_eq_true c8; clear c8
      by_cases c9 : x13_1 < (t384.length : Int)
      ·
       rw [if_pos c9] at H; have c9b0 : decide (x13_1 < (t384.length : Int)) = true := decide_eq_true c9; clear c9
       by_cases c10 : (rd t384 x13_1) > 0
       ·
        rw [if_pos c10] at H; have c10b0 : decide (0 < (rd t384 x13_1)) = true := decide_eq_true c10; clear c10; have H' := a_ H; clear H; have p387 : 0 ≤ (x13_1 : Int) := of_decide_eq_true t0_; have q387 : x13_1 < (t384.length : Int) := of_decide_eq_true t0_; obtain ⟨ad387, e387, hx387_0⟩ := Kd.at_int (Kd.R_reads' HO_11.out).2.2 x13_1 p387 q387
        cases e387
        replace p387 := eq_true p387; replace q387 := eq_true q387
        go_wp2
        go_roundg k1
        case measure => have := HK1.out; omega
        case rel => exact ⟨(wrap64 (x4_1 + 1)), (wrap64 (x13_1 + 1)), t2_, t2_, H', ⟨t52_⟩, ⟨R_ HO_11.out⟩, ⟨L_ HB.out (Nat.le_refl _) (Nat.le_refl _) (Nat.le_refl _)⟩⟩
       ·
        rw [if_neg c10] at H; have c10b0 : decide (0 < (rd t384 x13_1)) = false := decide_eq_false c10; clear c10; have H' := a_ H; clear H; have p387 : 0 ≤ (x13_1 : Int) := of_decide_eq_true t0_; have q387 : x13_1 < (t384.length : Int) := of_decide_eq_true t0_; obtain ⟨ad387, e387, hx387_0⟩ := Kd.at_int (Kd.R_reads' HO_11.out).2.2 x13_1 p387 q387
        cases e387
        replace p387 := eq_true p387; replace q387 := eq_true q387
        go_wp2
        go_roundg k1
        case measure => have := HK1.out; omega
        case rel => exact ⟨(x4_1), (wrap64 (x13_1 + 1)), t2_, t2_, H', ⟨t52_⟩, ⟨R_ HO_11.out⟩, ⟨L_ HB.out (Nat.le_refl _) (Nat.le_refl _) (Nat.le_refl _)⟩⟩
      ·
       rw [if_neg c9] at H
       exact absurd H t31_
     ·
      rw [if_neg c8] at H
      exact absurd H t31_
    ·
     rw [if_neg c7] at H; have c7b0 : decide (x13_1 < (t384.length : Int)) = false := decide_eq_false c7; clear c7; simp only [Option.some.injEq, Prod.mk.injEq] at H; obtain ⟨rfl, rfl⟩ := H
     go_wp2
     go_ret2
     exact ⟨by first | rfl | (simp [errW_none, errW_some] <;> rfl) | (simp [*, errW_none, errW_some] <;> rfl), by repeat (first | (with_reducible first | exact HB.out | apply below_alloc | apply pw_below_drewN | apply below_drew1) | exact HB.out)⟩
 ·
  replace c3 := Bool.eq_false_iff.mpr c3; subst c3; have H1 : (some (0, false)) = some (r1, r2) := by rw [if_neg (show ¬ (false = true) by decide)] at H; exact H
  clear H; have H := H1; clear H1; simp only [Option.some.injEq, Prod.mk.injEq] at H; obtain ⟨rfl, rfl⟩ := H
  go_enter Try.func32, Try.ntmps32
  go_wp2_with (first | ((with_reducible refine gate_callee (f := 38) rfl ?_); refine goesL_ (some 8) rfl rfl Try.func38 t1_ rfl #[.int .i64 a0] rfl (by (try simp only [m1_, m2_, m3_]); first | done | rfl) ?_; (with_reducible refine (spec_daDarts.calls a0 false _ A2.out).mono ?_); rintro e w' ⟨rfl, ⟨nd, rfl⟩⟩; refine ⟨_, rfl, ?_⟩))
  go_ret2
  exact ⟨by first | rfl | (simp [errW_none, errW_some] <;> rfl) | (simp [*, errW_none, errW_some] <;> rfl), by repeat (first | (with_reducible first | exact HB.out | apply below_alloc | apply pw_below_drewN | apply below_drew1) | exact HB.out)⟩
end Go.Proofs.Ytacmfgbeaoalfaa.QFnDartsFinish
