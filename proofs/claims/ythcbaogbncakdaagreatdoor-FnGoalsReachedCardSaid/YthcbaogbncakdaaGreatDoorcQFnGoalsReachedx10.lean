import Derived.Test.YthcbaogbncakdaaGreatDoorcQFnGoalsReachedx0
import Derived.Test.YthcbaogbncakdaaGreatDoorcQFnGoalsReachedx2
import Derived.Test.YthcbaogbncakdaaGreatDoorcQFnGoalsReachedx3
import Derived.Test.YthcbaogbncakdaaGreatDoorcGQ
namespace Go.Proofs.YthcbaogbncakdaaGreatDoor.QFnGoalsReached
open Go.RowKit Go.Proofs.YthcbaogbncakdaaGreatDoorW.PrintWords Go.Proofs.YthcbaogbncakdaaGreatDoorW.PrintLast Go.Proofs.YthcbaogbncakdaaGreatDoorW.PrintMore Go.Proofs.YthcbaogbncakdaaGreatDoor.Sh
attribute [local go_sem] max2_int min2_int max_two min_two max_three min_three max_four min_four
set_option linter.unusedVariables false
set_option linter.unusedSimpArgs false
mutual
def impl_GreatestNotReached.l0 : Nat → List Int → Int → List Int → Int → Int → Option (Int × Bool)
 | 0, _, _, _, _, _ => none
 | k + 1, x0, x4, x13, x14, x15 => if x15 < x14 then (if 0 ≤ x15 then (if x15 < (x13.length : Int) then (impl_GreatestNotReached.l1 k x0 (rd x13 x15) x4 x13 x14 x15) else (none)) else (none)) else (if x4 > 1 then (some (0, false)) else ((impl_fewGoals.f k x0 1000).bind fun t337 => (impl_GreatestNotReached.l2 k t337 1000)))
def impl_GreatestNotReached.l1 : Nat → List Int → Int → Int → List Int → Int → Int → Option (Int × Bool)
 | 0, _, _, _, _, _, _ => none
 | k + 1, x0, x6, x7, x13, x14, x15 => if x7 = 0 then (impl_GreatestNotReached.l0 k x0 x6 x13 x14 (wrap64 (x15 + 1))) else (impl_GreatestNotReached.l1 k x0 x7 (Int.tmod x6 x7) x13 x14 x15)
def impl_GreatestNotReached.l2 : Nat → List Int → Int → Option (Int × Bool)
 | 0, _, _ => none
 | k + 1, x8, x9 => if x9 > 0 then (if 0 ≤ x9 then (if x9 < (x8.length : Int) then (if (rd x8 x9) < 0 then (some (x9, true)) else (impl_GreatestNotReached.l2 k x8 (wrap64 (x9 - 1)))) else (none)) else (none)) else (some (0, false))
end
def impl_GreatestNotReached.f (k : Nat) (l0 : List Int) : Option (Int × Bool) := (impl_AreKinds.f k l0).bind fun t335 => (if t335 = true then (impl_GreatestNotReached.l0 k l0 0 l0 (l0.length : Int) 0) else (some (0, false)))
set_option maxHeartbeats 8000000 in
set_option maxRecDepth 100000 in
theorem impl_GreatestNotReached.calls (k : Nat) (A0 : Option Addr) (c0 : Nat) (l0 : List Int) (r1 : Int) (r2 : Bool) (w : World) (hr0 : Kd.C (Kd.int .i64) w A0 l0.length l0) (hc0 : l0.length ≤ c0) (h : impl_GreatestNotReached.f k l0 = some (r1, r2)) :
  Calls Tryz.prog 24 #[.slice A0 l0.length c0] w fun e w' => e = .returned (.tuple #[.int .i64 r1, .bool r2]) ∧ Below w.heap.size w w' := by
 have HR0 := a_ hr0; have HC0 := a_ hc0; clear hr0 hc0; have HB := a_ (Below.refl w.heap.size w); have H : ((impl_AreKinds.f k l0).bind fun t335 => (if t335 = true then (impl_GreatestNotReached.l0 k l0 0 l0 (l0.length : Int) 0) else (some (0, false)))) = some (r1, r2) := h; clear h; replace H := Option.bind_eq_some_iff.mp H; obtain ⟨t335, A20, H⟩ := H; replace H : (if t335 = true then (impl_GreatestNotReached.l0 k l0 0 l0 (l0.length : Int) 0) else (some (0, false))) = some (r1, r2) := H; have A2 := a_ A20; clear A20
 by_cases c3 : t335 = true
 ·
  subst c3; have H1 : (impl_GreatestNotReached.l0 k l0 0 l0 (l0.length : Int) 0) = some (r1, r2) := by rw [if_pos rfl] at H; exact H
  clear H; have H := H1; clear H1; have H' := a_ H; clear H
  go_enter Tryz.func24, Tryz.ntmps24
  go_wp2_with (first | (go_at_call 31; (with_reducible refine (impl_AreKinds.calls k _ _ l0 true _ ?side1 ?side2 A2.out).mono ?_); (case side1 => repeat (first | exact HR0.out | (with_reducible refine Kd.C_alloc ?_ _) | (with_reducible refine Kd.C_drewN ?_ _) | (with_reducible refine Kd.C_drew ?_))); (case side2 => exact HC0.out); rintro e w' ⟨rfl, ⟨nd, rfl⟩⟩; (try first | exact ⟨rfl, _, World.drewN_drewN _ _ _⟩ | exact ⟨rfl, _, Eq.trans (World.drewN_drewN _ _ _) (congrArg (World.drewN _) (Nat.add_assoc _ _ _))⟩)))
  repeat (go_quiet (first | (go_at_call 31; (with_reducible refine (impl_AreKinds.calls k _ _ l0 true _ ?side1 ?side2 A2.out).mono ?_); (case side1 => repeat (first | exact HR0.out | (with_reducible refine Kd.C_alloc ?_ _) | (with_reducible refine Kd.C_drewN ?_ _) | (with_reducible refine Kd.C_drew ?_))); (case side2 => exact HC0.out); rintro e w' ⟨rfl, ⟨nd, rfl⟩⟩; (try first | exact ⟨rfl, _, World.drewN_drewN _ _ _⟩ | exact ⟨rfl, _, Eq.trans (World.drewN_drewN _ _ _) (congrArg (World.drewN _) (Nat.add_assoc _ _ _))⟩))); try go_wp2_with (first | (go_at_call 31; (with_reducible refine (impl_AreKinds.calls k _ _ l0 true _ ?side1 ?side2 A2.out).mono ?_); (case side1 => repeat (first | exact HR0.out | (with_reducible refine Kd.C_alloc ?_ _) | (with_reducible refine Kd.C_drewN ?_ _) | (with_reducible refine Kd.C_drew ?_))); (case side2 => exact HC0.out); rintro e w' ⟨rfl, ⟨nd, rfl⟩⟩; (try first | exact ⟨rfl, _, World.drewN_drewN _ _ _⟩ | exact ⟨rfl, _, Eq.trans (World.drewN_drewN _ _ _) (congrArg (World.drewN _) (Nat.add_assoc _ _ _))⟩))))
  go_loopg [4, 15] k (fun kq v4 v15 w' => ∃ (x4_1 : Int) (x15_1 : Int), v4 = .int .i64 x4_1 ∧ v15 = .int .i64 x15_1 ∧ Aside0 (impl_GreatestNotReached.l0 kq l0 x4_1 l0 (l0.length : Int) x15_1 = some (r1, r2)) ∧ Aside0 (kq ≤ k) ∧ Aside0 (Below w.heap.size w w'))
  case atStart => exact ⟨(0), (0), t2_, t2_, H', ⟨Nat.le_refl _⟩, ⟨L_ HB.out (Nat.le_refl _) (Nat.le_refl _) (Nat.le_refl _)⟩⟩
  case round =>
   clear H'; obtain ⟨x4_1, x15_1, rfl, rfl, HA, HK1, HB⟩ := hrel
   cases gk with
   | zero => exact absurd HA.out (by simp [impl_GreatestNotReached.l0])
   | succ k1 =>
    have H := HA.out; clear HA; simp only [impl_GreatestNotReached.l0] at H
    by_cases c4 : x15_1 < (l0.length : Int)
    ·
     rw [if_pos c4] at H; have c4b0 : decide (x15_1 < (l0.length : Int)) = true := decide_eq_true c4; clear c4
     by_cases c5 : 0 ≤ x15_1
     ·
      rw [if_pos c5] at H; have c5b0 : decide (0 ≤ x15_1) = true := decide_eq_true c5; clear c5
      by_cases c6 : x15_1 < (l0.length : Int)
      ·
       rw [if_pos c6] at H; have c6b0 : decide (x15_1 < (l0.length : Int)) = true := decide_eq_true c6; clear c6; have H' := a_ H; clear H; have p336 : 0 ≤ (x15_1 : Int) := of_decide_eq_true t0_; have q336 : x15_1 < (l0.length : Int) := of_decide_eq_true t0_; obtain ⟨ad336, e336, hx336_0⟩ := Kd.at_int HR0.out x15_1 p336 q336
       cases e336
       replace hx336_0 := (HB.out.cell (World.block_lt_of_cell? w _ hx336_0)).trans hx336_0; replace p336 := eq_true p336; replace q336 := eq_true q336
       go_wp2
       repeat (go_quiet (fail); try go_wp2)
       go_loopg [6, 7] k1 (fun kq v6 v7 w' => ∃ (x6_2 : Int) (x7_2 : Int), v6 = .int .i64 x6_2 ∧ v7 = .int .i64 x7_2 ∧ Aside0 (impl_GreatestNotReached.l1 kq l0 x6_2 x7_2 l0 (l0.length : Int) x15_1 = some (r1, r2)) ∧ Aside0 (kq ≤ k1) ∧ Aside0 (Below w.heap.size w w'))
       case atStart => exact ⟨(rd l0 x15_1), (x4_1), t2_, t2_, H', ⟨Nat.le_refl _⟩, ⟨L_ HB.out (Nat.le_refl _) (Nat.le_refl _) (Nat.le_refl _)⟩⟩
       case round =>
        clear H'; obtain ⟨x6_2, x7_2, rfl, rfl, HA, HK2, HB⟩ := hrel
        cases gk with
        | zero => exact absurd HA.out (by simp [impl_GreatestNotReached.l1])
        | succ k2 =>
         have H := HA.out; clear HA; simp only [impl_GreatestNotReached.l1] at H
         by_cases c7 : x7_2 = 0
         ·
          rw [if_pos c7] at H; have c7b0 : (x7_2 == 0) = true := beq_iff_eq.mpr c7; have c7b1 : (x7_2 != 0) = false := bne_eq_false_iff_eq.mpr c7; clear c7; have H' := a_ H; clear H
          go_wp2
          repeat (go_quiet (fail); try go_wp2)
          go_roundg k2
          case measure => have := HK1.out; have := HK2.out; omega
          case rel => exact ⟨(x6_2), (wrap64 (x15_1 + 1)), t2_, t2_, H', ⟨t9_⟩, ⟨L_ HB.out (Nat.le_refl _) (Nat.le_refl _) (Nat.le_refl _)⟩⟩
         ·
          rw [if_neg c7] at H; have c7b0 : (x7_2 == 0) = false := beq_eq_false_iff_ne.mpr c7; have c7b1 : (x7_2 != 0) = true := bne_iff_ne.mpr c7; have H' := a_ H; clear H
          go_wp2
          repeat (go_quiet (fail); try go_wp2)
          go_roundg k2
          case measure => have := HK1.out; have := HK2.out; omega
          case rel => exact ⟨(x7_2), (Int.tmod x6_2 x7_2), t2_, t2_, H', ⟨t9_⟩, ⟨L_ HB.out (Nat.le_refl _) (Nat.le_refl _) (Nat.le_refl _)⟩⟩
      ·
       rw [if_neg c6] at H
       exact absurd H t8_
     ·
      rw [if_neg c5] at H
      exact absurd H t8_
    ·
     rw [if_neg c4] at H; have c4b0 : decide (x15_1 < (l0.length : Int)) = false := decide_eq_false c4; clear c4
     by_cases c8 : x4_1 > 1
     ·
      rw [if_pos c8] at H; have c8b0 : decide (1 < x4_1) = true := decide_eq_true c8; clear c8; simp only [Option.some.injEq, Prod.mk.injEq] at H; obtain ⟨rfl, rfl⟩ := H
      go_wp2
      repeat (go_quiet (fail); try go_wp2)
      go_ret2
      exact ⟨by first | rfl | (simp [errW_none, errW_some] <;> rfl) | (simp [*, errW_none, errW_some] <;> rfl), by repeat (first | (with_reducible first | exact HB.out | apply below_alloc | apply pw_below_drewN | apply below_drew1) | exact HB.out)⟩
     ·
      rw [if_neg c8] at H; have c8b0 : decide (1 < x4_1) = false := decide_eq_false c8; clear c8; replace H := Option.bind_eq_some_iff.mp H; obtain ⟨t337, A90, H⟩ := H; replace H : (impl_GreatestNotReached.l2 k1 t337 1000) = some (r1, r2) := H; have A9 := a_ A90; clear A90; have H' := a_ H; clear H
      go_wp2_with (first | (go_at_call 39; (with_reducible refine (impl_fewGoals.calls k1 _ _ l0 1000 t337 _ ?side1 ?side2 A9.out).mono ?_); (case side1 => repeat (first | exact (Kd.C_below HR0.out HB.out) | (with_reducible refine Kd.C_alloc ?_ _) | (with_reducible refine Kd.C_drewN ?_ _) | (with_reducible refine Kd.C_drew ?_))); (case side2 => exact HC0.out); rintro e w10 ⟨v338, rfl, ho0, hb⟩; have n0_ := a_ (Kd.R_lower ho0 (below_size (L_ HB.out (Nat.le_refl _) (Nat.le_refl _) (Nat.le_refl _)))); have n1_ := a_ (below_step (L_ HB.out (Nat.le_refl _) (Nat.le_refl _) (Nat.le_refl _)) hb); clear HB; have HO339 := n0_; have HB := n1_; clear n0_ n1_; (try clear hb); (try clear hb2); (try clear hk); (try clear hi); (try clear ho0)))
      repeat (go_quiet (first | (go_at_call 39; (with_reducible refine (impl_fewGoals.calls k1 _ _ l0 1000 t337 _ ?side1 ?side2 A9.out).mono ?_); (case side1 => repeat (first | exact (Kd.C_below HR0.out HB.out) | (with_reducible refine Kd.C_alloc ?_ _) | (with_reducible refine Kd.C_drewN ?_ _) | (with_reducible refine Kd.C_drew ?_))); (case side2 => exact HC0.out); rintro e w10 ⟨v338, rfl, ho0, hb⟩; have n0_ := a_ (Kd.R_lower ho0 (below_size (L_ HB.out (Nat.le_refl _) (Nat.le_refl _) (Nat.le_refl _)))); have n1_ := a_ (below_step (L_ HB.out (Nat.le_refl _) (Nat.le_refl _) (Nat.le_refl _)) hb); clear HB; have HO339 := n0_; have HB := n1_; clear n0_ n1_; (try clear hb); (try clear hb2); (try clear hk); (try clear hi); (try clear ho0))); try go_wp2_with (first | (go_at_call 39; (with_reducible refine (impl_fewGoals.calls k1 _ _ l0 1000 t337 _ ?side1 ?side2 A9.out).mono ?_); (case side1 => repeat (first | exact (Kd.C_below HR0.out HB.out) | (with_reducible refine Kd.C_alloc ?_ _) | (with_reducible refine Kd.C_drewN ?_ _) | (with_reducible refine Kd.C_drew ?_))); (case side2 => exact HC0.out); rintro e w10 ⟨v338, rfl, ho0, hb⟩; have n0_ := a_ (Kd.R_lower ho0 (below_size (L_ HB.out (Nat.le_refl _) (Nat.le_refl _) (Nat.le_refl _)))); have n1_ := a_ (below_step (L_ HB.out (Nat.le_refl _) (Nat.le_refl _) (Nat.le_refl _)) hb); clear HB; have HO339 := n0_; have HB := n1_; clear n0_ n1_; (try clear hb); (try clear hb2); (try clear hk); (try clear hi); (try clear ho0))))
      go_loopg [9] k1 (fun kq v9 w' => ∃ (x9_2 : Int), v9 = .int .i64 x9_2 ∧ Aside0 (impl_GreatestNotReached.l2 kq t337 x9_2 = some (r1, r2)) ∧ Aside0 (kq ≤ k1) ∧ Aside0 (Kd.R (Kd.int .i64) 3 w' w.heap.size (fun _ => True) v338 t337) ∧ Aside0 (Below w.heap.size w w'))
      case atStart => exact ⟨(1000), t2_, H', ⟨Nat.le_refl _⟩, ⟨R_ HO339.out⟩, ⟨L_ HB.out (Nat.le_refl _) (Nat.le_refl _) (Nat.le_refl _)⟩⟩
      case round =>
       clear H'; obtain ⟨x9_2, rfl, HA, HK2, HO_8, HB⟩ := hrel
       cases gk with
       | zero => exact absurd HA.out (by simp [impl_GreatestNotReached.l2])
       | succ k2 =>
        have H := HA.out; clear HA; simp only [impl_GreatestNotReached.l2] at H
        by_cases c11 : x9_2 > 0
        ·
         rw [if_pos c11] at H; have c11b0 : decide (0 < x9_2) = true := decide_eq_true c11; clear c11
         by_cases c12 : 0 ≤ x9_2
         ·
          rw [if_pos c12] at H; have c12b0 : decide (0 ≤ x9_2) = true := decide_eq_true c12; clear c12
          by_cases c13 : x9_2 < (t337.length : Int)
          ·
           rw [if_pos c13] at H; have c13b0 : decide (x9_2 < (t337.length : Int)) = true := decide_eq_true c13; clear c13
           by_cases c14 : (rd t337 x9_2) < 0
           ·
            rw [if_pos c14] at H; have c14b0 : decide ((rd t337 x9_2) < 0) = true := decide_eq_true c14; clear c14; simp only [Option.some.injEq, Prod.mk.injEq] at H; obtain ⟨rfl, rfl⟩ := H; obtain ⟨Ao15, co15, eo15⟩ := Kd.R_slice HO_8.out; subst eo15; have p340 : 0 ≤ (x9_2 : Int) := of_decide_eq_true t0_; have q340 : x9_2 < (t337.length : Int) := of_decide_eq_true t0_; obtain ⟨ad340, e340, hx340_0⟩ := Kd.at_int (Kd.R_reads' HO_8.out).2.2 x9_2 p340 q340
            cases e340
            replace p340 := eq_true p340; replace q340 := eq_true q340
            go_wp2
            repeat (go_quiet (fail); try go_wp2)
            go_ret2
            exact ⟨by first | rfl | (simp [errW_none, errW_some] <;> rfl) | (simp [*, errW_none, errW_some] <;> rfl), by repeat (first | (with_reducible first | exact HB.out | apply below_alloc | apply pw_below_drewN | apply below_drew1) | exact HB.out)⟩
           ·
            rw [if_neg c14] at H; have c14b0 : decide ((rd t337 x9_2) < 0) = false := decide_eq_false c14; clear c14; have H' := a_ H; clear H; obtain ⟨Ao16, co16, eo16⟩ := Kd.R_slice HO_8.out; subst eo16; have p340 : 0 ≤ (x9_2 : Int) := of_decide_eq_true t0_; have q340 : x9_2 < (t337.length : Int) := of_decide_eq_true t0_; obtain ⟨ad340, e340, hx340_0⟩ := Kd.at_int (Kd.R_reads' HO_8.out).2.2 x9_2 p340 q340
            cases e340
            replace p340 := eq_true p340; replace q340 := eq_true q340
            go_wp2
            repeat (go_quiet (fail); try go_wp2)
            go_roundg k2
            case measure => have := HK1.out; have := HK2.out; omega
            case rel => exact ⟨(wrap64 (x9_2 - 1)), t2_, H', ⟨t9_⟩, ⟨R_ HO_8.out⟩, ⟨L_ HB.out (Nat.le_refl _) (Nat.le_refl _) (Nat.le_refl _)⟩⟩
          ·
           rw [if_neg c13] at H
           exact absurd H t8_
         ·
          rw [if_neg c12] at H
          exact absurd H t8_
        ·
         rw [if_neg c11] at H; have c11b0 : decide (0 < x9_2) = false := decide_eq_false c11; clear c11; simp only [Option.some.injEq, Prod.mk.injEq] at H; obtain ⟨rfl, rfl⟩ := H
         go_wp2
         repeat (go_quiet (fail); try go_wp2)
         go_ret2
         exact ⟨by first | rfl | (simp [errW_none, errW_some] <;> rfl) | (simp [*, errW_none, errW_some] <;> rfl), by repeat (first | (with_reducible first | exact HB.out | apply below_alloc | apply pw_below_drewN | apply below_drew1) | exact HB.out)⟩
 ·
  replace c3 := Bool.eq_false_iff.mpr c3; subst c3; have H1 : (some (0, false)) = some (r1, r2) := by rw [if_neg (show ¬ (false = true) by decide)] at H; exact H
  clear H; have H := H1; clear H1; simp only [Option.some.injEq, Prod.mk.injEq] at H; obtain ⟨rfl, rfl⟩ := H
  go_enter Tryz.func24, Tryz.ntmps24
  go_wp2_with (first | (go_at_call 31; (with_reducible refine (impl_AreKinds.calls k _ _ l0 false _ ?side1 ?side2 A2.out).mono ?_); (case side1 => repeat (first | exact HR0.out | (with_reducible refine Kd.C_alloc ?_ _) | (with_reducible refine Kd.C_drewN ?_ _) | (with_reducible refine Kd.C_drew ?_))); (case side2 => exact HC0.out); rintro e w' ⟨rfl, ⟨nd, rfl⟩⟩; (try first | exact ⟨rfl, _, World.drewN_drewN _ _ _⟩ | exact ⟨rfl, _, Eq.trans (World.drewN_drewN _ _ _) (congrArg (World.drewN _) (Nat.add_assoc _ _ _))⟩)))
  repeat (go_quiet (first | (go_at_call 31; (with_reducible refine (impl_AreKinds.calls k _ _ l0 false _ ?side1 ?side2 A2.out).mono ?_); (case side1 => repeat (first | exact HR0.out | (with_reducible refine Kd.C_alloc ?_ _) | (with_reducible refine Kd.C_drewN ?_ _) | (with_reducible refine Kd.C_drew ?_))); (case side2 => exact HC0.out); rintro e w' ⟨rfl, ⟨nd, rfl⟩⟩; (try first | exact ⟨rfl, _, World.drewN_drewN _ _ _⟩ | exact ⟨rfl, _, Eq.trans (World.drewN_drewN _ _ _) (congrArg (World.drewN _) (Nat.add_assoc _ _ _))⟩))); try go_wp2_with (first | (go_at_call 31; (with_reducible refine (impl_AreKinds.calls k _ _ l0 false _ ?side1 ?side2 A2.out).mono ?_); (case side1 => repeat (first | exact HR0.out | (with_reducible refine Kd.C_alloc ?_ _) | (with_reducible refine Kd.C_drewN ?_ _) | (with_reducible refine Kd.C_drew ?_))); (case side2 => exact HC0.out); rintro e w' ⟨rfl, ⟨nd, rfl⟩⟩; (try first | exact ⟨rfl, _, World.drewN_drewN _ _ _⟩ | exact ⟨rfl, _, Eq.trans (World.drewN_drewN _ _ _) (congrArg (World.drewN _) (Nat.add_assoc _ _ _))⟩))))
  go_ret2
  exact ⟨by first | rfl | (simp [errW_none, errW_some] <;> rfl) | (simp [*, errW_none, errW_some] <;> rfl), by repeat (first | (with_reducible first | exact HB.out | apply below_alloc | apply pw_below_drewN | apply below_drew1) | exact HB.out)⟩
mutual
def spec_GreatestNotReached.l0 : Nat → List Int → Int → List Int → Int → Int → Option (Int × Bool)
 | 0, _, _, _, _, _ => none
 | k + 1, x0, x4, x12, x13, x14 => if x14 < x13 then (if 0 ≤ x14 then (if x14 < (x12.length : Int) then (spec_GreatestNotReached.l1 k x0 x4 (rd x12 x14) x12 x13 x14) else (none)) else (none)) else (if x4 > 1 then (spec_GreatestNotReached.j2 k x0 true) else (if 0 < (x0.length : Int) then (spec_GreatestNotReached.j2 k x0 ((rd x0 0) == 1)) else (none)))
def spec_GreatestNotReached.l1 : Nat → List Int → Int → Int → List Int → Int → Int → Option (Int × Bool)
 | 0, _, _, _, _, _, _ => none
 | k + 1, x0, x4, x6, x12, x13, x14 => if x6 > 0 then (if x6 = 0 then (none) else (spec_GreatestNotReached.l1 k x0 x6 (Int.tmod x4 x6) x12 x13 x14)) else (spec_GreatestNotReached.l0 k x0 x4 x12 x13 (wrap64 (x14 + 1)))
def spec_GreatestNotReached.j2 : Nat → List Int → Bool → Option (Int × Bool)
 | 0, _, _ => none
 | k + 1, x0, x32 => if x32 = true then (some (0, false)) else ((spec_goFew.f k x0 800).bind fun t344 => (spec_GreatestNotReached.l2 k t344 (wrap64 ((t344.length : Int) - 1))))
def spec_GreatestNotReached.l2 : Nat → List Int → Int → Option (Int × Bool)
 | 0, _, _ => none
 | k + 1, x7, x8 => if 0 ≤ x8 then (if x8 < (x7.length : Int) then (if (rd x7 x8) ≥ 0 then (spec_GreatestNotReached.l2 k x7 (wrap64 (x8 - 1))) else (some (x8, true))) else (none)) else (none)
end
def spec_GreatestNotReached.f (k : Nat) (l0 : List Int) : Option (Int × Bool) := (spec_goKinds.f k l0).bind fun t341 => (if t341 = true then (spec_GreatestNotReached.l0 k l0 0 l0 (l0.length : Int) 0) else (some (0, false)))
set_option maxHeartbeats 8000000 in
set_option maxRecDepth 100000 in
theorem spec_GreatestNotReached.calls (k : Nat) (A0 : Option Addr) (c0 : Nat) (l0 : List Int) (r1 : Int) (r2 : Bool) (w : World) (hr0 : Kd.C (Kd.int .i64) w A0 l0.length l0) (hc0 : l0.length ≤ c0) (h : spec_GreatestNotReached.f k l0 = some (r1, r2)) :
  Calls Tryz.prog 25 #[.slice A0 l0.length c0] w fun e w' => e = .returned (.tuple #[.int .i64 r1, .bool r2]) ∧ Below w.heap.size w w' := by
 have HR0 := a_ hr0; have HC0 := a_ hc0; clear hr0 hc0; have HB := a_ (Below.refl w.heap.size w); have H : ((spec_goKinds.f k l0).bind fun t341 => (if t341 = true then (spec_GreatestNotReached.l0 k l0 0 l0 (l0.length : Int) 0) else (some (0, false)))) = some (r1, r2) := h; clear h; replace H := Option.bind_eq_some_iff.mp H; obtain ⟨t341, A20, H⟩ := H; replace H : (if t341 = true then (spec_GreatestNotReached.l0 k l0 0 l0 (l0.length : Int) 0) else (some (0, false))) = some (r1, r2) := H; have A2 := a_ A20; clear A20
 by_cases c3 : t341 = true
 ·
  subst c3; have H1 : (spec_GreatestNotReached.l0 k l0 0 l0 (l0.length : Int) 0) = some (r1, r2) := by rw [if_pos rfl] at H; exact H
  clear H; have H := H1; clear H1; have H' := a_ H; clear H
  go_enter Tryz.func25, Tryz.ntmps25
  go_wp2_with (first | (go_at_call 43; (with_reducible refine (spec_goKinds.calls k _ _ l0 true _ ?side1 ?side2 A2.out).mono ?_); (case side1 => repeat (first | exact HR0.out | (with_reducible refine Kd.C_alloc ?_ _) | (with_reducible refine Kd.C_drewN ?_ _) | (with_reducible refine Kd.C_drew ?_))); (case side2 => exact HC0.out); rintro e w' ⟨rfl, ⟨nd, rfl⟩⟩; (try first | exact ⟨rfl, _, World.drewN_drewN _ _ _⟩ | exact ⟨rfl, _, Eq.trans (World.drewN_drewN _ _ _) (congrArg (World.drewN _) (Nat.add_assoc _ _ _))⟩)))
  repeat (go_quiet (first | (go_at_call 43; (with_reducible refine (spec_goKinds.calls k _ _ l0 true _ ?side1 ?side2 A2.out).mono ?_); (case side1 => repeat (first | exact HR0.out | (with_reducible refine Kd.C_alloc ?_ _) | (with_reducible refine Kd.C_drewN ?_ _) | (with_reducible refine Kd.C_drew ?_))); (case side2 => exact HC0.out); rintro e w' ⟨rfl, ⟨nd, rfl⟩⟩; (try first | exact ⟨rfl, _, World.drewN_drewN _ _ _⟩ | exact ⟨rfl, _, Eq.trans (World.drewN_drewN _ _ _) (congrArg (World.drewN _) (Nat.add_assoc _ _ _))⟩))); try go_wp2_with (first | (go_at_call 43; (with_reducible refine (spec_goKinds.calls k _ _ l0 true _ ?side1 ?side2 A2.out).mono ?_); (case side1 => repeat (first | exact HR0.out | (with_reducible refine Kd.C_alloc ?_ _) | (with_reducible refine Kd.C_drewN ?_ _) | (with_reducible refine Kd.C_drew ?_))); (case side2 => exact HC0.out); rintro e w' ⟨rfl, ⟨nd, rfl⟩⟩; (try first | exact ⟨rfl, _, World.drewN_drewN _ _ _⟩ | exact ⟨rfl, _, Eq.trans (World.drewN_drewN _ _ _) (congrArg (World.drewN _) (Nat.add_assoc _ _ _))⟩))))
  go_loopg [4, 14] k (fun kq v4 v14 w' => ∃ (x4_1 : Int) (x14_1 : Int), v4 = .int .i64 x4_1 ∧ v14 = .int .i64 x14_1 ∧ Aside0 (spec_GreatestNotReached.l0 kq l0 x4_1 l0 (l0.length : Int) x14_1 = some (r1, r2)) ∧ Aside0 (kq ≤ k) ∧ Aside0 (Below w.heap.size w w'))
  case atStart => exact ⟨(0), (0), t2_, t2_, H', ⟨Nat.le_refl _⟩, ⟨L_ HB.out (Nat.le_refl _) (Nat.le_refl _) (Nat.le_refl _)⟩⟩
  case round =>
   clear H'; obtain ⟨x4_1, x14_1, rfl, rfl, HA, HK1, HB⟩ := hrel
   cases gk with
   | zero => exact absurd HA.out (by simp [spec_GreatestNotReached.l0])
   | succ k1 =>
    have H := HA.out; clear HA; simp only [spec_GreatestNotReached.l0] at H
    by_cases c4 : x14_1 < (l0.length : Int)
    ·
     rw [if_pos c4] at H; have c4b0 : decide (x14_1 < (l0.length : Int)) = true := decide_eq_true c4; clear c4
     by_cases c5 : 0 ≤ x14_1
     ·
      rw [if_pos c5] at H; have c5b0 : decide (0 ≤ x14_1) = true := decide_eq_true c5; clear c5
      by_cases c6 : x14_1 < (l0.length : Int)
      ·
       rw [if_pos c6] at H; have c6b0 : decide (x14_1 < (l0.length : Int)) = true := decide_eq_true c6; clear c6; have H' := a_ H; clear H; have p342 : 0 ≤ (x14_1 : Int) := of_decide_eq_true t0_; have q342 : x14_1 < (l0.length : Int) := of_decide_eq_true t0_; obtain ⟨ad342, e342, hx342_0⟩ := Kd.at_int HR0.out x14_1 p342 q342
       cases e342
       replace hx342_0 := (HB.out.cell (World.block_lt_of_cell? w _ hx342_0)).trans hx342_0; replace p342 := eq_true p342; replace q342 := eq_true q342
       go_wp2
       repeat (go_quiet (fail); try go_wp2)
       go_loopg [4, 6] k1 (fun kq v4 v6 w' => ∃ (x4_2 : Int) (x6_2 : Int), v4 = .int .i64 x4_2 ∧ v6 = .int .i64 x6_2 ∧ Aside0 (spec_GreatestNotReached.l1 kq l0 x4_2 x6_2 l0 (l0.length : Int) x14_1 = some (r1, r2)) ∧ Aside0 (kq ≤ k1) ∧ Aside0 (Below w.heap.size w w'))
       case atStart => exact ⟨(x4_1), (rd l0 x14_1), t2_, t2_, H', ⟨Nat.le_refl _⟩, ⟨L_ HB.out (Nat.le_refl _) (Nat.le_refl _) (Nat.le_refl _)⟩⟩
       case round =>
        clear H'; obtain ⟨x4_2, x6_2, rfl, rfl, HA, HK2, HB⟩ := hrel
        cases gk with
        | zero => exact absurd HA.out (by simp [spec_GreatestNotReached.l1])
        | succ k2 =>
         have H := HA.out; clear HA; simp only [spec_GreatestNotReached.l1] at H
         by_cases c7 : x6_2 > 0
         ·
          rw [if_pos c7] at H; have c7b0 : decide (0 < x6_2) = true := decide_eq_true c7; clear c7
          by_cases c8 : x6_2 = 0
          ·
           rw [if_pos c8] at H
           exact absurd H t8_
          ·
           rw [if_neg c8] at H; have c8b0 : (x6_2 == 0) = false := beq_eq_false_iff_ne.mpr c8; have c8b1 : (x6_2 != 0) = true := bne_iff_ne.mpr c8; have H' := a_ H; clear H
           go_wp2
           repeat (go_quiet (fail); try go_wp2)
           go_roundg k2
           case measure => have := HK1.out; have := HK2.out; omega
           case rel => exact ⟨(x6_2), (Int.tmod x4_2 x6_2), t2_, t2_, H', ⟨t9_⟩, ⟨L_ HB.out (Nat.le_refl _) (Nat.le_refl _) (Nat.le_refl _)⟩⟩
         ·
          rw [if_neg c7] at H; have c7b0 : decide (0 < x6_2) = false := decide_eq_false c7; clear c7; have H' := a_ H; clear H
          go_wp2
          repeat (go_quiet (fail); try go_wp2)
          go_roundg k2
          case measure => have := HK1.out; have := HK2.out; omega
          case rel => exact ⟨(x4_2), (wrap64 (x14_1 + 1)), t2_, t2_, H', ⟨t9_⟩, ⟨L_ HB.out (Nat.le_refl _) (Nat.le_refl _) (Nat.le_refl _)⟩⟩
      ·
       rw [if_neg c6] at H
       exact absurd H t8_
     ·
      rw [if_neg c5] at H
      exact absurd H t8_
    ·
     rw [if_neg c4] at H; have c4b0 : decide (x14_1 < (l0.length : Int)) = false := decide_eq_false c4; clear c4; have HC9 := a_ H; clear H
     go_upto_region 10 with (fail)
     repeat (go_quiet (fail); go_upto_region 10 with (fail))
     go_cut [32] (fun v32 wc => ∃ (kq : Nat) (x32_8 : Bool), v32 = .bool x32_8 ∧ Aside0 (spec_GreatestNotReached.j2 kq l0 x32_8 = some (r1, r2)) ∧ Aside0 (kq ≤ k1) ∧ Aside0 (Below w.heap.size w wc))
     case first =>
      have H := HC9.out; clear HC9
      by_cases c10 : x4_1 > 1
      ·
       rw [if_pos c10] at H; have c10b0 : decide (1 < x4_1) = true := decide_eq_true c10; clear c10
       (first | rw [c10b0] | (simp only [i64_w, i32_w]; rw [c10b0]) | skip)
       have H' := a_ H; clear H
       go_wp2
       repeat (go_quiet (fail); try go_wp2)
       go_meet
       case rel => exact ⟨_, (true), t2_, H', ⟨t27_⟩, ⟨L_ HB.out (Nat.le_refl _) (Nat.le_refl _) (Nat.le_refl _)⟩⟩
      ·
       rw [if_neg c10] at H; have c10b0 : decide (1 < x4_1) = false := decide_eq_false c10; clear c10
       (first | rw [c10b0] | (simp only [i64_w, i32_w]; rw [c10b0]) | skip)
       by_cases c11 : 0 < (l0.length : Int)
       ·
        rw [if_pos c11] at H; have c11b0 : decide (0 < (l0.length : Int)) = true := decide_eq_true c11; have c11b1 : decide (0 < l0.length) = true := decide_eq_true t18_; clear c11; have H' := a_ H; clear H; have p343 : 0 ≤ (0 : Int) := t18_; have q343 : 0 < (l0.length : Int) := of_decide_eq_true t0_; obtain ⟨ad343, e343, hx343_0⟩ := Kd.at_int HR0.out 0 p343 q343
        cases e343
        have qi343 : (0 < l0.length) = True := eq_true t18_
        (try rw [show ((0 : Int)).toNat = 0 from rfl] at hx343_0)
        (try rw [Addr.add_zero'] at hx343_0)
        replace hx343_0 := (HB.out.cell (World.block_lt_of_cell? w _ hx343_0)).trans hx343_0; replace p343 := eq_true p343; replace q343 := eq_true q343
        go_wp2
        repeat (go_quiet (fail); try go_wp2)
        go_meet
        case rel => exact ⟨_, (((rd l0 0) == 1)), t2_, H', ⟨t27_⟩, ⟨L_ HB.out (Nat.le_refl _) (Nat.le_refl _) (Nat.le_refl _)⟩⟩
       ·
        rw [if_neg c11] at H
        exact absurd H t8_
     case rest =>
      clear HC9; obtain ⟨kq, x32_8, rfl, HA, HJ8, HB⟩ := hcut
      cases kq with
      | zero => exact absurd HA.out (by simp [spec_GreatestNotReached.j2])
      | succ kj8 =>
       have H := HA.out; clear HA; simp only [spec_GreatestNotReached.j2] at H
       by_cases c12 : x32_8 = true
       ·
        subst c12; have H1 : (some (0, false)) = some (r1, r2) := by rw [if_pos rfl] at H; exact H
        clear H; have H := H1; clear H1; simp only [Option.some.injEq, Prod.mk.injEq] at H; obtain ⟨rfl, rfl⟩ := H
        go_wp2
        repeat (go_quiet (fail); try go_wp2)
        go_ret2
        exact ⟨by first | rfl | (simp [errW_none, errW_some] <;> rfl) | (simp [*, errW_none, errW_some] <;> rfl), by repeat (first | (with_reducible first | exact HB.out | apply below_alloc | apply pw_below_drewN | apply below_drew1) | exact HB.out)⟩
       ·
        replace c12 := Bool.eq_false_iff.mpr c12; subst c12; have H1 : ((spec_goFew.f kj8 l0 800).bind fun t344 => (spec_GreatestNotReached.l2 kj8 t344 (wrap64 ((t344.length : Int) - 1)))) = some (r1, r2) := by rw [if_neg (show ¬ (false = true) by decide)] at H; exact H
        clear H; have H := H1; clear H1; replace H := Option.bind_eq_some_iff.mp H; obtain ⟨t344, A130, H⟩ := H; replace H : (spec_GreatestNotReached.l2 kj8 t344 (wrap64 ((t344.length : Int) - 1))) = some (r1, r2) := H; have A13 := a_ A130; clear A130; have H' := a_ H; clear H
        go_wp2_with (first | (go_at_call 36; (with_reducible refine (spec_goFew.calls kj8 _ _ l0 800 t344 _ ?side1 ?side2 A13.out).mono ?_); (case side1 => repeat (first | exact (Kd.C_below HR0.out HB.out) | (with_reducible refine Kd.C_alloc ?_ _) | (with_reducible refine Kd.C_drewN ?_ _) | (with_reducible refine Kd.C_drew ?_))); (case side2 => exact HC0.out); rintro e w14 ⟨v345, rfl, ho0, hb⟩; have n0_ := a_ (Kd.R_lower ho0 (below_size (L_ HB.out (Nat.le_refl _) (Nat.le_refl _) (Nat.le_refl _)))); have n1_ := a_ (below_step (L_ HB.out (Nat.le_refl _) (Nat.le_refl _) (Nat.le_refl _)) hb); clear HB; have HO346 := n0_; have HB := n1_; clear n0_ n1_; (try clear hb); (try clear hb2); (try clear hk); (try clear hi); (try clear ho0); obtain ⟨Ao15, co15, eo15⟩ := Kd.R_slice HO346.out; subst eo15))
        repeat (go_quiet (first | (go_at_call 36; (with_reducible refine (spec_goFew.calls kj8 _ _ l0 800 t344 _ ?side1 ?side2 A13.out).mono ?_); (case side1 => repeat (first | exact (Kd.C_below HR0.out HB.out) | (with_reducible refine Kd.C_alloc ?_ _) | (with_reducible refine Kd.C_drewN ?_ _) | (with_reducible refine Kd.C_drew ?_))); (case side2 => exact HC0.out); rintro e w14 ⟨v345, rfl, ho0, hb⟩; have n0_ := a_ (Kd.R_lower ho0 (below_size (L_ HB.out (Nat.le_refl _) (Nat.le_refl _) (Nat.le_refl _)))); have n1_ := a_ (below_step (L_ HB.out (Nat.le_refl _) (Nat.le_refl _) (Nat.le_refl _)) hb); clear HB; have HO346 := n0_; have HB := n1_; clear n0_ n1_; (try clear hb); (try clear hb2); (try clear hk); (try clear hi); (try clear ho0); obtain ⟨Ao15, co15, eo15⟩ := Kd.R_slice HO346.out; subst eo15)); try go_wp2_with (first | (go_at_call 36; (with_reducible refine (spec_goFew.calls kj8 _ _ l0 800 t344 _ ?side1 ?side2 A13.out).mono ?_); (case side1 => repeat (first | exact (Kd.C_below HR0.out HB.out) | (with_reducible refine Kd.C_alloc ?_ _) | (with_reducible refine Kd.C_drewN ?_ _) | (with_reducible refine Kd.C_drew ?_))); (case side2 => exact HC0.out); rintro e w14 ⟨v345, rfl, ho0, hb⟩; have n0_ := a_ (Kd.R_lower ho0 (below_size (L_ HB.out (Nat.le_refl _) (Nat.le_refl _) (Nat.le_refl _)))); have n1_ := a_ (below_step (L_ HB.out (Nat.le_refl _) (Nat.le_refl _) (Nat.le_refl _)) hb); clear HB; have HO346 := n0_; have HB := n1_; clear n0_ n1_; (try clear hb); (try clear hb2); (try clear hk); (try clear hi); (try clear ho0); obtain ⟨Ao15, co15, eo15⟩ := Kd.R_slice HO346.out; subst eo15)))
        go_loopg [8] kj8 (fun kq v8 w' => ∃ (x8_3 : Int), v8 = .int .i64 x8_3 ∧ Aside0 (spec_GreatestNotReached.l2 kq t344 x8_3 = some (r1, r2)) ∧ Aside0 (kq ≤ kj8) ∧ Aside0 (Kd.R (Kd.int .i64) 3 w' w.heap.size (fun _ => True) (.slice Ao15 t344.length co15) t344) ∧ Aside0 (Below w.heap.size w w'))
        case atStart => exact ⟨(wrap64 ((t344.length : Int) - 1)), t2_, H', ⟨Nat.le_refl _⟩, ⟨R_ HO346.out⟩, ⟨L_ HB.out (Nat.le_refl _) (Nat.le_refl _) (Nat.le_refl _)⟩⟩
        case round =>
         clear H'; obtain ⟨x8_3, rfl, HA, HK3, HO_7, HB⟩ := hrel
         cases gk with
         | zero => exact absurd HA.out (by simp [spec_GreatestNotReached.l2])
         | succ k3 =>
          have H := HA.out; clear HA; simp only [spec_GreatestNotReached.l2] at H
          by_cases c16 : 0 ≤ x8_3
          ·
           rw [if_pos c16] at H; have c16b0 : decide (0 ≤ x8_3) = true := decide_eq_true c16; clear c16
           by_cases c17 : x8_3 < (t344.length : Int)
           ·
            rw [if_pos c17] at H; have c17b0 : decide (x8_3 < (t344.length : Int)) = true := decide_eq_true c17; clear c17
            by_cases c18 : (rd t344 x8_3) ≥ 0
            ·
             rw [if_pos c18] at H; have c18b0 : decide (0 ≤ (rd t344 x8_3)) = true := decide_eq_true c18; clear c18; have H' := a_ H; clear H; have p347 : 0 ≤ (x8_3 : Int) := of_decide_eq_true t0_; have q347 : x8_3 < (t344.length : Int) := of_decide_eq_true t0_; obtain ⟨ad347, e347, hx347_0⟩ := Kd.at_int (Kd.R_reads' HO_7.out).2.2 x8_3 p347 q347
             cases e347
             replace p347 := eq_true p347; replace q347 := eq_true q347
             go_wp2
             repeat (go_quiet (fail); try go_wp2)
             go_roundg k3
             case measure => have := HK1.out; have := HJ8.out; have := HK3.out; omega
             case rel => exact ⟨(wrap64 (x8_3 - 1)), t2_, H', ⟨by have := HK1.out; have := HJ8.out; have := HK3.out; omega⟩, ⟨R_ HO_7.out⟩, ⟨L_ HB.out (Nat.le_refl _) (Nat.le_refl _) (Nat.le_refl _)⟩⟩
            ·
             rw [if_neg c18] at H; have c18b0 : decide (0 ≤ (rd t344 x8_3)) = false := decide_eq_false c18; clear c18; simp only [Option.some.injEq, Prod.mk.injEq] at H; obtain ⟨rfl, rfl⟩ := H; have p347 : 0 ≤ (x8_3 : Int) := of_decide_eq_true t0_; have q347 : x8_3 < (t344.length : Int) := of_decide_eq_true t0_; obtain ⟨ad347, e347, hx347_0⟩ := Kd.at_int (Kd.R_reads' HO_7.out).2.2 x8_3 p347 q347
             cases e347
             replace p347 := eq_true p347; replace q347 := eq_true q347
             go_wp2
             repeat (go_quiet (fail); try go_wp2)
             go_ret2
             exact ⟨by first | rfl | (simp [errW_none, errW_some] <;> rfl) | (simp [*, errW_none, errW_some] <;> rfl), by repeat (first | (with_reducible first | exact HB.out | apply below_alloc | apply pw_below_drewN | apply below_drew1) | exact HB.out)⟩
           ·
            rw [if_neg c17] at H
            exact absurd H t8_
          ·
           rw [if_neg c16] at H
           exact absurd H t8_
 ·
  replace c3 := Bool.eq_false_iff.mpr c3; subst c3; have H1 : (some (0, false)) = some (r1, r2) := by rw [if_neg (show ¬ (false = true) by decide)] at H; exact H
  clear H; have H := H1; clear H1; simp only [Option.some.injEq, Prod.mk.injEq] at H; obtain ⟨rfl, rfl⟩ := H
  go_enter Tryz.func25, Tryz.ntmps25
  go_wp2_with (first | (go_at_call 43; (with_reducible refine (spec_goKinds.calls k _ _ l0 false _ ?side1 ?side2 A2.out).mono ?_); (case side1 => repeat (first | exact HR0.out | (with_reducible refine Kd.C_alloc ?_ _) | (with_reducible refine Kd.C_drewN ?_ _) | (with_reducible refine Kd.C_drew ?_))); (case side2 => exact HC0.out); rintro e w' ⟨rfl, ⟨nd, rfl⟩⟩; (try first | exact ⟨rfl, _, World.drewN_drewN _ _ _⟩ | exact ⟨rfl, _, Eq.trans (World.drewN_drewN _ _ _) (congrArg (World.drewN _) (Nat.add_assoc _ _ _))⟩)))
  repeat (go_quiet (first | (go_at_call 43; (with_reducible refine (spec_goKinds.calls k _ _ l0 false _ ?side1 ?side2 A2.out).mono ?_); (case side1 => repeat (first | exact HR0.out | (with_reducible refine Kd.C_alloc ?_ _) | (with_reducible refine Kd.C_drewN ?_ _) | (with_reducible refine Kd.C_drew ?_))); (case side2 => exact HC0.out); rintro e w' ⟨rfl, ⟨nd, rfl⟩⟩; (try first | exact ⟨rfl, _, World.drewN_drewN _ _ _⟩ | exact ⟨rfl, _, Eq.trans (World.drewN_drewN _ _ _) (congrArg (World.drewN _) (Nat.add_assoc _ _ _))⟩))); try go_wp2_with (first | (go_at_call 43; (with_reducible refine (spec_goKinds.calls k _ _ l0 false _ ?side1 ?side2 A2.out).mono ?_); (case side1 => repeat (first | exact HR0.out | (with_reducible refine Kd.C_alloc ?_ _) | (with_reducible refine Kd.C_drewN ?_ _) | (with_reducible refine Kd.C_drew ?_))); (case side2 => exact HC0.out); rintro e w' ⟨rfl, ⟨nd, rfl⟩⟩; (try first | exact ⟨rfl, _, World.drewN_drewN _ _ _⟩ | exact ⟨rfl, _, Eq.trans (World.drewN_drewN _ _ _) (congrArg (World.drewN _) (Nat.add_assoc _ _ _))⟩))))
  go_ret2
  exact ⟨by first | rfl | (simp [errW_none, errW_some] <;> rfl) | (simp [*, errW_none, errW_some] <;> rfl), by repeat (first | (with_reducible first | exact HB.out | apply below_alloc | apply pw_below_drewN | apply below_drew1) | exact HB.out)⟩
end Go.Proofs.YthcbaogbncakdaaGreatDoor.QFnGoalsReached
