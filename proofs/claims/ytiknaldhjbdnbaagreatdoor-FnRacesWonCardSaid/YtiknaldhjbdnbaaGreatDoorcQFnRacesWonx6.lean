import Derived.Test.YtiknaldhjbdnbaaGreatDoorcQFnRacesWonx0
import Derived.Test.YtiknaldhjbdnbaaGreatDoorcQFnRacesWonx1
import Derived.Test.YtiknaldhjbdnbaaGreatDoorcQFnRacesWonx2
import Derived.Test.YtiknaldhjbdnbaaGreatDoorcQFnRacesWonx3
import Derived.Test.YtiknaldhjbdnbaaGreatDoorcGPoints
import Derived.Test.YtiknaldhjbdnbaaGreatDoorcGCur
import Derived.Test.YtiknaldhjbdnbaaGreatDoorcGQ
namespace Go.Proofs.YtiknaldhjbdnbaaGreatDoor.QFnRacesWon
open Go.RowKit Go.Proofs.YtiknaldhjbdnbaaGreatDoorW.PrintWords Go.Proofs.YtiknaldhjbdnbaaGreatDoorW.PrintLast Go.Proofs.YtiknaldhjbdnbaaGreatDoorW.PrintMore Go.Proofs.YtiknaldhjbdnbaaGreatDoor.Sh
attribute [local go_sem] max2_int min2_int max_two min_two max_three min_three max_four min_four
set_option linter.unusedVariables false
set_option linter.unusedSimpArgs false
mutual
def impl_LongestRun.j0 : Nat → ByteArray → Bool → Option (ByteArray × Int × Bool)
 | 0, _, _ => none
 | k + 1, x0, x15 => if x15 = true then (some ((⟨#[]⟩ : ByteArray), 0, false)) else (impl_LongestRun.l0 k x0 (⟨#[]⟩ : ByteArray) 0 0 (x0.size : Int) 0)
def impl_LongestRun.l0 : Nat → ByteArray → ByteArray → Int → Int → Int → Int → Option (ByteArray × Int × Bool)
 | 0, _, _, _, _, _, _ => none
 | k + 1, x0, x5, x6, x7, x17, x18 => if x18 < x17 then (if x18 > 0 then (if 0 ≤ x18 then (if x18 < (x0.size : Int) then (if 0 ≤ (wrap64 (x18 - 1)) then (if (wrap64 (x18 - 1)) < (x0.size : Int) then (impl_LongestRun.j2 k x0 x5 x6 x7 x18 x17 x18 ((bt x0 x18) == (bt x0 (wrap64 (x18 - 1))))) else (none)) else (none)) else (none)) else (none)) else (impl_LongestRun.j2 k x0 x5 x6 x7 x18 x17 x18 false)) else (some (x5, x6, true))
def impl_LongestRun.j2 : Nat → ByteArray → ByteArray → Int → Int → Int → Int → Int → Bool → Option (ByteArray × Int × Bool)
 | 0, _, _, _, _, _, _, _, _ => none
 | k + 1, x0, x5, x6, x7, x8, x17, x18, x32 => if x32 = true then (if (wrap64 (x7 + 1)) > x6 then (if 0 ≤ x8 then (if x8 ≤ (wrap64 (x8 + 1)) then (if (wrap64 (x8 + 1)) ≤ (x0.size : Int) then (impl_LongestRun.l0 k x0 (x0.extract (x8 : Int).toNat ((wrap64 (x8 + 1)) : Int).toNat) (wrap64 (x7 + 1)) (wrap64 (x7 + 1)) x17 (wrap64 (x18 + 1))) else (none)) else (none)) else (none)) else (impl_LongestRun.l0 k x0 x5 x6 (wrap64 (x7 + 1)) x17 (wrap64 (x18 + 1)))) else (if 1 > x6 then (if 0 ≤ x8 then (if x8 ≤ (wrap64 (x8 + 1)) then (if (wrap64 (x8 + 1)) ≤ (x0.size : Int) then (impl_LongestRun.l0 k x0 (x0.extract (x8 : Int).toNat ((wrap64 (x8 + 1)) : Int).toNat) 1 1 x17 (wrap64 (x18 + 1))) else (none)) else (none)) else (none)) else (impl_LongestRun.l0 k x0 x5 x6 1 x17 (wrap64 (x18 + 1))))
end
def impl_LongestRun.f (k : Nat) (a0 : ByteArray) : Option (ByteArray × Int × Bool) := (impl_isPoints.f a0 100).bind fun t348 => (if t348 = true then (impl_LongestRun.j0 k a0 (a0.toList == ([] : List UInt8))) else (impl_LongestRun.j0 k a0 true))
set_option maxHeartbeats 8000000 in
set_option maxRecDepth 100000 in
theorem impl_LongestRun.calls (k : Nat) (a0 : ByteArray) (r1 : ByteArray) (r2 : Int) (r3 : Bool) (w : World) (h : impl_LongestRun.f k a0 = some (r1, r2, r3)) :
  Calls Tryz.prog 22 #[.string a0] w fun e w' => e = .returned (.tuple #[.string r1, .int .i64 r2, .bool r3]) ∧ Below w.heap.size w w' := by
 have HB := a_ (Below.refl w.heap.size w); have H : ((impl_isPoints.f a0 100).bind fun t348 => (if t348 = true then (impl_LongestRun.j0 k a0 (a0.toList == ([] : List UInt8))) else (impl_LongestRun.j0 k a0 true))) = some (r1, r2, r3) := h; clear h; have HC2 := a_ H; clear H
 go_enter Tryz.func22, Tryz.ntmps22
 go_upto_region 1 with (fail)
 repeat (go_quiet (fail); go_upto_region 1 with (fail))
 go_cut [15] (fun v15 wc => ∃ (kq : Nat) (x15_1 : Bool), v15 = .bool x15_1 ∧ Aside0 (impl_LongestRun.j0 kq a0 x15_1 = some (r1, r2, r3)) ∧ Aside0 (kq ≤ k) ∧ Aside0 (Below w.heap.size w wc))
 case first =>
  have H := HC2.out; clear HC2; replace H := Option.bind_eq_some_iff.mp H; obtain ⟨t348, A30, H⟩ := H; replace H : (if t348 = true then (impl_LongestRun.j0 k a0 (a0.toList == ([] : List UInt8))) else (impl_LongestRun.j0 k a0 true)) = some (r1, r2, r3) := H; have A3 := a_ A30; clear A30
  by_cases c4 : t348 = true
  ·
   subst c4; have H1 : (impl_LongestRun.j0 k a0 (a0.toList == ([] : List UInt8))) = some (r1, r2, r3) := by rw [if_pos rfl] at H; exact H
   clear H; have H := H1; clear H1; have H' := a_ H; clear H
   go_wp2_with (first | (go_at_call 42; (with_reducible refine (impl_isPoints.calls a0 100 true _ A3.out).mono ?_); rintro e w5 ⟨rfl, hb⟩; have n0_ := a_ (below_step (L_ HB.out (Nat.le_refl _) (Nat.le_refl _) (Nat.le_refl _)) hb); clear HB; have HB := n0_; clear n0_; (try clear hb); (try clear hb2); (try clear hk); (try clear hi)))
   repeat (go_quiet (first | (go_at_call 42; (with_reducible refine (impl_isPoints.calls a0 100 true _ A3.out).mono ?_); rintro e w5 ⟨rfl, hb⟩; have n0_ := a_ (below_step (L_ HB.out (Nat.le_refl _) (Nat.le_refl _) (Nat.le_refl _)) hb); clear HB; have HB := n0_; clear n0_; (try clear hb); (try clear hb2); (try clear hk); (try clear hi))); try go_wp2_with (first | (go_at_call 42; (with_reducible refine (impl_isPoints.calls a0 100 true _ A3.out).mono ?_); rintro e w5 ⟨rfl, hb⟩; have n0_ := a_ (below_step (L_ HB.out (Nat.le_refl _) (Nat.le_refl _) (Nat.le_refl _)) hb); clear HB; have HB := n0_; clear n0_; (try clear hb); (try clear hb2); (try clear hk); (try clear hi))))
   go_meet
   case rel => exact ⟨_, ((a0.toList == ([] : List UInt8))), t1_, H', ⟨t16_⟩, ⟨L_ HB.out (Nat.le_refl _) (Nat.le_refl _) (Nat.le_refl _)⟩⟩
  ·
   replace c4 := Bool.eq_false_iff.mpr c4; subst c4; have H1 : (impl_LongestRun.j0 k a0 true) = some (r1, r2, r3) := by rw [if_neg (show ¬ (false = true) by decide)] at H; exact H
   clear H; have H := H1; clear H1; have H' := a_ H; clear H
   go_wp2_with (first | (go_at_call 42; (with_reducible refine (impl_isPoints.calls a0 100 false _ A3.out).mono ?_); rintro e w6 ⟨rfl, hb⟩; have n0_ := a_ (below_step (L_ HB.out (Nat.le_refl _) (Nat.le_refl _) (Nat.le_refl _)) hb); clear HB; have HB := n0_; clear n0_; (try clear hb); (try clear hb2); (try clear hk); (try clear hi)))
   repeat (go_quiet (first | (go_at_call 42; (with_reducible refine (impl_isPoints.calls a0 100 false _ A3.out).mono ?_); rintro e w6 ⟨rfl, hb⟩; have n0_ := a_ (below_step (L_ HB.out (Nat.le_refl _) (Nat.le_refl _) (Nat.le_refl _)) hb); clear HB; have HB := n0_; clear n0_; (try clear hb); (try clear hb2); (try clear hk); (try clear hi))); try go_wp2_with (first | (go_at_call 42; (with_reducible refine (impl_isPoints.calls a0 100 false _ A3.out).mono ?_); rintro e w6 ⟨rfl, hb⟩; have n0_ := a_ (below_step (L_ HB.out (Nat.le_refl _) (Nat.le_refl _) (Nat.le_refl _)) hb); clear HB; have HB := n0_; clear n0_; (try clear hb); (try clear hb2); (try clear hk); (try clear hi))))
   go_meet
   case rel => exact ⟨_, (true), t1_, H', ⟨t16_⟩, ⟨L_ HB.out (Nat.le_refl _) (Nat.le_refl _) (Nat.le_refl _)⟩⟩
 case rest =>
  clear HC2; obtain ⟨kq, x15_1, rfl, HA, HJ1, HB⟩ := hcut
  cases kq with
  | zero => exact absurd HA.out (by simp [impl_LongestRun.j0])
  | succ kj1 =>
   have H := HA.out; clear HA; simp only [impl_LongestRun.j0] at H
   by_cases c7 : x15_1 = true
   ·
    subst c7; have H1 : (some ((⟨#[]⟩ : ByteArray), 0, false)) = some (r1, r2, r3) := by rw [if_pos rfl] at H; exact H
    clear H; have H := H1; clear H1; simp only [Option.some.injEq, Prod.mk.injEq] at H; obtain ⟨rfl, rfl, rfl⟩ := H
    go_wp2
    repeat (go_quiet (fail); try go_wp2)
    go_ret3
    exact ⟨by first | rfl | (simp [errW_none, errW_some] <;> rfl) | (simp [*, errW_none, errW_some] <;> rfl), by repeat (first | (with_reducible first | exact HB.out | apply below_alloc | apply pw_below_drewN | apply below_drew1) | exact HB.out)⟩
   ·
    replace c7 := Bool.eq_false_iff.mpr c7; subst c7; have H1 : (impl_LongestRun.l0 kj1 a0 (⟨#[]⟩ : ByteArray) 0 0 (a0.size : Int) 0) = some (r1, r2, r3) := by rw [if_neg (show ¬ (false = true) by decide)] at H; exact H
    clear H; have H := H1; clear H1; have H' := a_ H; clear H
    go_wp2
    repeat (go_quiet (fail); try go_wp2)
    go_loopg [5, 6, 7, 18] kj1 (fun kq v5 v6 v7 v18 w' => ∃ (x5_2 : ByteArray) (x6_2 : Int) (x7_2 : Int) (x18_2 : Int), v5 = .string x5_2 ∧ v6 = .int .i64 x6_2 ∧ v7 = .int .i64 x7_2 ∧ v18 = .int .i64 x18_2 ∧ Aside0 (impl_LongestRun.l0 kq a0 x5_2 x6_2 x7_2 (a0.size : Int) x18_2 = some (r1, r2, r3)) ∧ Aside0 (kq ≤ kj1) ∧ Aside0 (Below w.heap.size w w'))
    case atStart => exact ⟨((⟨#[]⟩ : ByteArray)), (0), (0), (0), t1_, t1_, t1_, t1_, H', ⟨Nat.le_refl _⟩, ⟨L_ HB.out (Nat.le_refl _) (Nat.le_refl _) (Nat.le_refl _)⟩⟩
    case round =>
     clear H'; obtain ⟨x5_2, x6_2, x7_2, x18_2, rfl, rfl, rfl, rfl, HA, HK2, HB⟩ := hrel
     cases gk with
     | zero => exact absurd HA.out (by simp [impl_LongestRun.l0])
     | succ k2 =>
      have H := HA.out; clear HA; simp only [impl_LongestRun.l0] at H
      by_cases c8 : x18_2 < (a0.size : Int)
      ·
       rw [if_pos c8] at H; have c8b0 : decide (x18_2 < (a0.size : Int)) = true := decide_eq_true c8; clear c8; have HC9 := a_ H; clear H
       go_upto_region 7 with (fail)
       repeat (go_quiet (fail); go_upto_region 7 with (fail))
       go_cut [32] (fun v32 wc => ∃ (kq : Nat) (x32_8 : Bool), v32 = .bool x32_8 ∧ Aside0 (impl_LongestRun.j2 kq a0 x5_2 x6_2 x7_2 x18_2 (a0.size : Int) x18_2 x32_8 = some (r1, r2, r3)) ∧ Aside0 (kq ≤ k2) ∧ Aside0 (Below w.heap.size w wc))
       case first =>
        have H := HC9.out; clear HC9
        by_cases c10 : x18_2 > 0
        ·
         rw [if_pos c10] at H; have c10b0 : decide (0 < x18_2) = true := decide_eq_true c10; clear c10
         (first | rw [c10b0] | (simp only [i64_w, i32_w]; rw [c10b0]) | skip)
         by_cases c11 : 0 ≤ x18_2
         ·
          rw [if_pos c11] at H; have c11b0 : decide (0 ≤ x18_2) = true := decide_eq_true c11; clear c11
          by_cases c12 : x18_2 < (a0.size : Int)
          ·
           rw [if_pos c12] at H; have c12b0 : decide (x18_2 < (a0.size : Int)) = true := decide_eq_true c12; clear c12; obtain ⟨ji14, hji14⟩ : ∃ j_ : Int, (wrap64 (x18_2 - 1)) = j_ := ⟨_, rfl⟩; replace H : (if 0 ≤ (ji14) then (if (ji14) < (a0.size : Int) then (impl_LongestRun.j2 k2 a0 x5_2 x6_2 x7_2 x18_2 (a0.size : Int) x18_2 ((bt a0 x18_2) == (bt a0 (ji14)))) else (none)) else (none)) = some (r1, r2, r3) := by first | (rw [hji14] at H; exact H) | (simp only [hji14] at H ⊢; exact H)
           have hji14w : (IntKind.i64.wrap (x18_2 - 1)) = ji14 := (i64_w _).trans hji14
           by_cases c15 : 0 ≤ (ji14)
           ·
            rw [if_pos c15] at H; have c15b0 : decide (0 ≤ (ji14)) = true := decide_eq_true c15; clear c15
            by_cases c16 : (ji14) < (a0.size : Int)
            ·
             rw [if_pos c16] at H; have c16b0 : decide ((ji14) < (a0.size : Int)) = true := decide_eq_true c16; clear c16; have H' := a_ H; clear H; have p13 : 0 ≤ (x18_2 : Int) := of_decide_eq_true t2_; have q13 : x18_2 < (a0.size : Int) := of_decide_eq_true t2_; have hx13 := bt_at a0 x18_2; replace p13 := eq_true p13; replace q13 := eq_true q13; have p17 : 0 ≤ ((ji14) : Int) := of_decide_eq_true t2_; have q17 : (ji14) < (a0.size : Int) := of_decide_eq_true t2_; have hx17 := bt_at a0 (ji14); replace p17 := eq_true p17; replace q17 := eq_true q17
             go_wp2
             repeat (go_quiet (fail); try go_wp2)
             go_meet
             case rel => exact ⟨_, (((bt a0 x18_2) == (bt a0 (ji14)))), (by first | rfl | (simp; done) | (simp only [← hji14] <;> (first | rfl | simp)) | (simp [*]; done)), H', ⟨t43_⟩, ⟨L_ HB.out (Nat.le_refl _) (Nat.le_refl _) (Nat.le_refl _)⟩⟩
            ·
             rw [if_neg c16] at H
             exact absurd H t19_
           ·
            rw [if_neg c15] at H
            exact absurd H t19_
          ·
           rw [if_neg c12] at H
           exact absurd H t19_
         ·
          rw [if_neg c11] at H
          exact absurd H t19_
        ·
         rw [if_neg c10] at H; have c10b0 : decide (0 < x18_2) = false := decide_eq_false c10; clear c10
         (first | rw [c10b0] | (simp only [i64_w, i32_w]; rw [c10b0]) | skip)
         have H' := a_ H; clear H
         go_wp2
         repeat (go_quiet (fail); try go_wp2)
         go_meet
         case rel => exact ⟨_, (false), t1_, H', ⟨t43_⟩, ⟨L_ HB.out (Nat.le_refl _) (Nat.le_refl _) (Nat.le_refl _)⟩⟩
       case rest =>
        clear HC9; obtain ⟨kq, x32_8, rfl, HA, HJ8, HB⟩ := hcut
        cases kq with
        | zero => exact absurd HA.out (by simp [impl_LongestRun.j2])
        | succ kj8 =>
         have H := HA.out; clear HA; simp only [impl_LongestRun.j2] at H
         by_cases c18 : x32_8 = true
         ·
          subst c18; have H1 : (if (wrap64 (x7_2 + 1)) > x6_2 then (if 0 ≤ x18_2 then (if x18_2 ≤ (wrap64 (x18_2 + 1)) then (if (wrap64 (x18_2 + 1)) ≤ (a0.size : Int) then (impl_LongestRun.l0 kj8 a0 (a0.extract (x18_2 : Int).toNat ((wrap64 (x18_2 + 1)) : Int).toNat) (wrap64 (x7_2 + 1)) (wrap64 (x7_2 + 1)) (a0.size : Int) (wrap64 (x18_2 + 1))) else (none)) else (none)) else (none)) else (impl_LongestRun.l0 kj8 a0 x5_2 x6_2 (wrap64 (x7_2 + 1)) (a0.size : Int) (wrap64 (x18_2 + 1)))) = some (r1, r2, r3) := by rw [if_pos rfl] at H; exact H
          clear H; have H := H1; clear H1
          by_cases c19 : (wrap64 (x7_2 + 1)) > x6_2
          ·
           rw [if_pos c19] at H; have c19b0 : decide (x6_2 < (wrap64 (x7_2 + 1))) = true := decide_eq_true c19; clear c19
           by_cases c20 : 0 ≤ x18_2
           ·
            rw [if_pos c20] at H; have c20b0 := eq_true c20; have c20b1 : decide (0 ≤ x18_2) = true := decide_eq_true c20; clear c20
            by_cases c21 : x18_2 ≤ (wrap64 (x18_2 + 1))
            ·
             rw [if_pos c21] at H; have c21b0 := eq_true c21; have c21b1 : decide (x18_2 ≤ (wrap64 (x18_2 + 1))) = true := decide_eq_true c21
             by_cases c22 : (wrap64 (x18_2 + 1)) ≤ (a0.size : Int)
             ·
              rw [if_pos c22] at H; have c22b0 := eq_true c22; have c22b1 : decide ((wrap64 (x18_2 + 1)) ≤ (a0.size : Int)) = true := decide_eq_true c22; have H' := a_ H; clear H
              go_wp2
              repeat (go_quiet (fail); try go_wp2)
              go_roundg kj8
              case measure => have := HJ1.out; have := HK2.out; have := HJ8.out; omega
              case rel => exact ⟨(a0.extract (x18_2 : Int).toNat ((wrap64 (x18_2 + 1)) : Int).toNat), (wrap64 (x7_2 + 1)), (wrap64 (x7_2 + 1)), (wrap64 (x18_2 + 1)), t1_, t1_, t1_, t1_, H', ⟨t45_⟩, ⟨L_ HB.out (Nat.le_refl _) (Nat.le_refl _) (Nat.le_refl _)⟩⟩
             ·
              rw [if_neg c22] at H
              exact absurd H t19_
            ·
             rw [if_neg c21] at H
             exact absurd H t19_
           ·
            rw [if_neg c20] at H
            exact absurd H t19_
          ·
           rw [if_neg c19] at H; have c19b0 : decide (x6_2 < (wrap64 (x7_2 + 1))) = false := decide_eq_false c19; clear c19; have H' := a_ H; clear H
           go_wp2
           repeat (go_quiet (fail); try go_wp2)
           go_roundg kj8
           case measure => have := HJ1.out; have := HK2.out; have := HJ8.out; omega
           case rel => exact ⟨(x5_2), (x6_2), (wrap64 (x7_2 + 1)), (wrap64 (x18_2 + 1)), t1_, t1_, t1_, t1_, H', ⟨t45_⟩, ⟨L_ HB.out (Nat.le_refl _) (Nat.le_refl _) (Nat.le_refl _)⟩⟩
         ·
          replace c18 := Bool.eq_false_iff.mpr c18; subst c18; have H1 : (if 1 > x6_2 then (if 0 ≤ x18_2 then (if x18_2 ≤ (wrap64 (x18_2 + 1)) then (if (wrap64 (x18_2 + 1)) ≤ (a0.size : Int) then (impl_LongestRun.l0 kj8 a0 (a0.extract (x18_2 : Int).toNat ((wrap64 (x18_2 + 1)) : Int).toNat) 1 1 (a0.size : Int) (wrap64 (x18_2 + 1))) else (none)) else (none)) else (none)) else (impl_LongestRun.l0 kj8 a0 x5_2 x6_2 1 (a0.size : Int) (wrap64 (x18_2 + 1)))) = some (r1, r2, r3) := by rw [if_neg (show ¬ (false = true) by decide)] at H; exact H
          clear H; have H := H1; clear H1
          by_cases c23 : 1 > x6_2
          ·
           rw [if_pos c23] at H; have c23b0 : decide (x6_2 < 1) = true := decide_eq_true c23; clear c23
           by_cases c24 : 0 ≤ x18_2
           ·
            rw [if_pos c24] at H; have c24b0 := eq_true c24; have c24b1 : decide (0 ≤ x18_2) = true := decide_eq_true c24; clear c24
            by_cases c25 : x18_2 ≤ (wrap64 (x18_2 + 1))
            ·
             rw [if_pos c25] at H; have c25b0 := eq_true c25; have c25b1 : decide (x18_2 ≤ (wrap64 (x18_2 + 1))) = true := decide_eq_true c25
             by_cases c26 : (wrap64 (x18_2 + 1)) ≤ (a0.size : Int)
             ·
              rw [if_pos c26] at H; have c26b0 := eq_true c26; have c26b1 : decide ((wrap64 (x18_2 + 1)) ≤ (a0.size : Int)) = true := decide_eq_true c26; have H' := a_ H; clear H
              go_wp2
              repeat (go_quiet (fail); try go_wp2)
              go_roundg kj8
              case measure => have := HJ1.out; have := HK2.out; have := HJ8.out; omega
              case rel => exact ⟨(a0.extract (x18_2 : Int).toNat ((wrap64 (x18_2 + 1)) : Int).toNat), (1), (1), (wrap64 (x18_2 + 1)), t1_, t1_, t1_, t1_, H', ⟨t45_⟩, ⟨L_ HB.out (Nat.le_refl _) (Nat.le_refl _) (Nat.le_refl _)⟩⟩
             ·
              rw [if_neg c26] at H
              exact absurd H t19_
            ·
             rw [if_neg c25] at H
             exact absurd H t19_
           ·
            rw [if_neg c24] at H
            exact absurd H t19_
          ·
           rw [if_neg c23] at H; have c23b0 : decide (x6_2 < 1) = false := decide_eq_false c23; clear c23; have H' := a_ H; clear H
           go_wp2
           repeat (go_quiet (fail); try go_wp2)
           go_roundg kj8
           case measure => have := HJ1.out; have := HK2.out; have := HJ8.out; omega
           case rel => exact ⟨(x5_2), (x6_2), (1), (wrap64 (x18_2 + 1)), t1_, t1_, t1_, t1_, H', ⟨t45_⟩, ⟨L_ HB.out (Nat.le_refl _) (Nat.le_refl _) (Nat.le_refl _)⟩⟩
      ·
       rw [if_neg c8] at H; have c8b0 : decide (x18_2 < (a0.size : Int)) = false := decide_eq_false c8; clear c8; simp only [Option.some.injEq, Prod.mk.injEq] at H; obtain ⟨rfl, rfl, rfl⟩ := H
       go_wp2
       repeat (go_quiet (fail); try go_wp2)
       go_ret3
       exact ⟨by first | rfl | (simp [errW_none, errW_some] <;> rfl) | (simp [*, errW_none, errW_some] <;> rfl), by repeat (first | (with_reducible first | exact HB.out | apply below_alloc | apply pw_below_drewN | apply below_drew1) | exact HB.out)⟩
mutual
def spec_LongestRun.j0 : Nat → ByteArray → Bool → Option (ByteArray × Int × Bool)
 | 0, _, _ => none
 | k + 1, x0, x15 => if x15 = true then (some ((⟨#[]⟩ : ByteArray), 0, false)) else (spec_LongestRun.l0 k x0 (⟨#[]⟩ : ByteArray) 0 0 0)
def spec_LongestRun.l0 : Nat → ByteArray → ByteArray → Int → Int → Int → Option (ByteArray × Int × Bool)
 | 0, _, _, _, _, _ => none
 | k + 1, x0, x5, x6, x7, x8 => if x8 < (x0.size : Int) then (if x8 = 0 then (spec_LongestRun.j2 k x0 x5 x6 x7 x8 true) else (if 0 ≤ (wrap64 (x8 - 1)) then (if (wrap64 (x8 - 1)) < (x0.size : Int) then (if 0 ≤ x8 then (spec_LongestRun.j2 k x0 x5 x6 x7 x8 ((bt x0 (wrap64 (x8 - 1))) != (bt x0 x8))) else (none)) else (none)) else (none))) else (some (x5, x6, true))
def spec_LongestRun.j2 : Nat → ByteArray → ByteArray → Int → Int → Int → Bool → Option (ByteArray × Int × Bool)
 | 0, _, _, _, _, _, _ => none
 | k + 1, x0, x5, x6, x7, x8, x33 => if x33 = true then (if 1 > x6 then (if 0 ≤ x8 then (if x8 ≤ (wrap64 (x8 + 1)) then (if (wrap64 (x8 + 1)) ≤ (x0.size : Int) then (spec_LongestRun.l0 k x0 (x0.extract (x8 : Int).toNat ((wrap64 (x8 + 1)) : Int).toNat) 1 1 (wrap64 (x8 + 1))) else (none)) else (none)) else (none)) else (spec_LongestRun.l0 k x0 x5 x6 1 (wrap64 (x8 + 1)))) else (if (wrap64 (x7 + 1)) > x6 then (if 0 ≤ x8 then (if x8 ≤ (wrap64 (x8 + 1)) then (if (wrap64 (x8 + 1)) ≤ (x0.size : Int) then (spec_LongestRun.l0 k x0 (x0.extract (x8 : Int).toNat ((wrap64 (x8 + 1)) : Int).toNat) (wrap64 (x7 + 1)) (wrap64 (x7 + 1)) (wrap64 (x8 + 1))) else (none)) else (none)) else (none)) else (spec_LongestRun.l0 k x0 x5 x6 (wrap64 (x7 + 1)) (wrap64 (x8 + 1))))
end
def spec_LongestRun.f (k : Nat) (a0 : ByteArray) : Option (ByteArray × Int × Bool) := (spec_raPoints.f k a0).bind fun t349 => (if t349 = true then (spec_LongestRun.j0 k a0 (a0.toList == ([] : List UInt8))) else (spec_LongestRun.j0 k a0 true))
set_option maxHeartbeats 8000000 in
set_option maxRecDepth 100000 in
theorem spec_LongestRun.calls (k : Nat) (a0 : ByteArray) (r1 : ByteArray) (r2 : Int) (r3 : Bool) (w : World) (h : spec_LongestRun.f k a0 = some (r1, r2, r3)) :
  Calls Tryz.prog 23 #[.string a0] w fun e w' => e = .returned (.tuple #[.string r1, .int .i64 r2, .bool r3]) ∧ Drawn0 w w' := by
 have H : ((spec_raPoints.f k a0).bind fun t349 => (if t349 = true then (spec_LongestRun.j0 k a0 (a0.toList == ([] : List UInt8))) else (spec_LongestRun.j0 k a0 true))) = some (r1, r2, r3) := h; clear h; have HC2 := a_ H; clear H
 go_enter Tryz.func23, Tryz.ntmps23
 go_upto_region 1 with (fail)
 repeat (go_quiet (fail); go_upto_region 1 with (fail))
 go_cut [15] (fun v15 wc => ∃ (kq : Nat) (x15_1 : Bool), v15 = .bool x15_1 ∧ Aside0 (spec_LongestRun.j0 kq a0 x15_1 = some (r1, r2, r3)) ∧ Aside0 (kq ≤ k) ∧ Drawn0 w wc)
 case first =>
  have H := HC2.out; clear HC2; replace H := Option.bind_eq_some_iff.mp H; obtain ⟨t349, A30, H⟩ := H; replace H : (if t349 = true then (spec_LongestRun.j0 k a0 (a0.toList == ([] : List UInt8))) else (spec_LongestRun.j0 k a0 true)) = some (r1, r2, r3) := H; have A3 := a_ A30; clear A30
  by_cases c4 : t349 = true
  ·
   subst c4; have H1 : (spec_LongestRun.j0 k a0 (a0.toList == ([] : List UInt8))) = some (r1, r2, r3) := by rw [if_pos rfl] at H; exact H
   clear H; have H := H1; clear H1; have H' := a_ H; clear H
   go_wp2_with (first | (go_at_call 45; (with_reducible refine (spec_raPoints.calls k a0 true _ A3.out).mono ?_); rintro e w' ⟨rfl, ⟨nd, rfl⟩⟩; (try first | exact ⟨rfl, _, World.drewN_drewN _ _ _⟩ | exact ⟨rfl, _, Eq.trans (World.drewN_drewN _ _ _) (congrArg (World.drewN _) (Nat.add_assoc _ _ _))⟩)))
   repeat (go_quiet (first | (go_at_call 45; (with_reducible refine (spec_raPoints.calls k a0 true _ A3.out).mono ?_); rintro e w' ⟨rfl, ⟨nd, rfl⟩⟩; (try first | exact ⟨rfl, _, World.drewN_drewN _ _ _⟩ | exact ⟨rfl, _, Eq.trans (World.drewN_drewN _ _ _) (congrArg (World.drewN _) (Nat.add_assoc _ _ _))⟩))); try go_wp2_with (first | (go_at_call 45; (with_reducible refine (spec_raPoints.calls k a0 true _ A3.out).mono ?_); rintro e w' ⟨rfl, ⟨nd, rfl⟩⟩; (try first | exact ⟨rfl, _, World.drewN_drewN _ _ _⟩ | exact ⟨rfl, _, Eq.trans (World.drewN_drewN _ _ _) (congrArg (World.drewN _) (Nat.add_assoc _ _ _))⟩))))
   go_meet
   case rel => exact ⟨_, ((a0.toList == ([] : List UInt8))), t1_, H', ⟨t16_⟩, by repeat (first | exact Drawn0.refl _ | apply Drawn0.step)⟩
  ·
   replace c4 := Bool.eq_false_iff.mpr c4; subst c4; have H1 : (spec_LongestRun.j0 k a0 true) = some (r1, r2, r3) := by rw [if_neg (show ¬ (false = true) by decide)] at H; exact H
   clear H; have H := H1; clear H1; have H' := a_ H; clear H
   go_wp2_with (first | (go_at_call 45; (with_reducible refine (spec_raPoints.calls k a0 false _ A3.out).mono ?_); rintro e w' ⟨rfl, ⟨nd, rfl⟩⟩; (try first | exact ⟨rfl, _, World.drewN_drewN _ _ _⟩ | exact ⟨rfl, _, Eq.trans (World.drewN_drewN _ _ _) (congrArg (World.drewN _) (Nat.add_assoc _ _ _))⟩)))
   repeat (go_quiet (first | (go_at_call 45; (with_reducible refine (spec_raPoints.calls k a0 false _ A3.out).mono ?_); rintro e w' ⟨rfl, ⟨nd, rfl⟩⟩; (try first | exact ⟨rfl, _, World.drewN_drewN _ _ _⟩ | exact ⟨rfl, _, Eq.trans (World.drewN_drewN _ _ _) (congrArg (World.drewN _) (Nat.add_assoc _ _ _))⟩))); try go_wp2_with (first | (go_at_call 45; (with_reducible refine (spec_raPoints.calls k a0 false _ A3.out).mono ?_); rintro e w' ⟨rfl, ⟨nd, rfl⟩⟩; (try first | exact ⟨rfl, _, World.drewN_drewN _ _ _⟩ | exact ⟨rfl, _, Eq.trans (World.drewN_drewN _ _ _) (congrArg (World.drewN _) (Nat.add_assoc _ _ _))⟩))))
   go_meet
   case rel => exact ⟨_, (true), t1_, H', ⟨t16_⟩, by repeat (first | exact Drawn0.refl _ | apply Drawn0.step)⟩
 case rest =>
  clear HC2; obtain ⟨kq, x15_1, rfl, HA, HJ1, ⟨mc1, rfl⟩⟩ := hcut
  cases kq with
  | zero => exact absurd HA.out (by simp [spec_LongestRun.j0])
  | succ kj1 =>
   have H := HA.out; clear HA; simp only [spec_LongestRun.j0] at H
   by_cases c5 : x15_1 = true
   ·
    subst c5; have H1 : (some ((⟨#[]⟩ : ByteArray), 0, false)) = some (r1, r2, r3) := by rw [if_pos rfl] at H; exact H
    clear H; have H := H1; clear H1; simp only [Option.some.injEq, Prod.mk.injEq] at H; obtain ⟨rfl, rfl, rfl⟩ := H
    go_wp2
    repeat (go_quiet (fail); try go_wp2)
    go_ret3
    exact ⟨by first | rfl | (simp; done) | (simp [*]; done), by repeat (first | exact Drawn0.refl _ | apply Drawn0.step)⟩
   ·
    replace c5 := Bool.eq_false_iff.mpr c5; subst c5; have H1 : (spec_LongestRun.l0 kj1 a0 (⟨#[]⟩ : ByteArray) 0 0 0) = some (r1, r2, r3) := by rw [if_neg (show ¬ (false = true) by decide)] at H; exact H
    clear H; have H := H1; clear H1; have H' := a_ H; clear H
    go_wp2
    repeat (go_quiet (fail); try go_wp2)
    go_loopg [5, 6, 7, 8] kj1 (fun kq v5 v6 v7 v8 w' => ∃ (x5_2 : ByteArray) (x6_2 : Int) (x7_2 : Int) (x8_2 : Int), v5 = .string x5_2 ∧ v6 = .int .i64 x6_2 ∧ v7 = .int .i64 x7_2 ∧ v8 = .int .i64 x8_2 ∧ Aside0 (spec_LongestRun.l0 kq a0 x5_2 x6_2 x7_2 x8_2 = some (r1, r2, r3)) ∧ Aside0 (kq ≤ kj1) ∧ Drawn0 w w')
    case atStart => exact ⟨((⟨#[]⟩ : ByteArray)), (0), (0), (0), t1_, t1_, t1_, t1_, H', ⟨Nat.le_refl _⟩, by repeat (first | exact Drawn0.refl _ | apply Drawn0.step)⟩
    case round =>
     clear H'; obtain ⟨x5_2, x6_2, x7_2, x8_2, rfl, rfl, rfl, rfl, HA, HK2, ⟨m2, rfl⟩⟩ := hrel
     cases gk with
     | zero => exact absurd HA.out (by simp [spec_LongestRun.l0])
     | succ k2 =>
      have H := HA.out; clear HA; simp only [spec_LongestRun.l0] at H
      by_cases c6 : x8_2 < (a0.size : Int)
      ·
       rw [if_pos c6] at H; have c6b0 : decide (x8_2 < (a0.size : Int)) = true := decide_eq_true c6; clear c6; have HC7 := a_ H; clear H
       go_upto_region 7 with (fail)
       repeat (go_quiet (fail); go_upto_region 7 with (fail))
       go_cut [33] (fun v33 wc => ∃ (kq : Nat) (x33_6 : Bool), v33 = .bool x33_6 ∧ Aside0 (spec_LongestRun.j2 kq a0 x5_2 x6_2 x7_2 x8_2 x33_6 = some (r1, r2, r3)) ∧ Aside0 (kq ≤ k2) ∧ Drawn0 w wc)
       case first =>
        have H := HC7.out; clear HC7
        by_cases c8 : x8_2 = 0
        ·
         rw [if_pos c8] at H; have c8b0 : (x8_2 == 0) = true := beq_iff_eq.mpr c8; have c8b1 : (x8_2 != 0) = false := bne_eq_false_iff_eq.mpr c8; clear c8
         (first | rw [c8b0] | (simp only [i64_w, i32_w]; rw [c8b0]) | skip)
         have H' := a_ H; clear H
         go_wp2
         repeat (go_quiet (fail); try go_wp2)
         go_meet
         case rel => exact ⟨_, (true), t1_, H', ⟨t43_⟩, by repeat (first | exact Drawn0.refl _ | apply Drawn0.step)⟩
        ·
         rw [if_neg c8] at H; have c8b0 : (x8_2 == 0) = false := beq_eq_false_iff_ne.mpr c8; have c8b1 : (x8_2 != 0) = true := bne_iff_ne.mpr c8
         (first | rw [c8b0] | (simp only [i64_w, i32_w]; rw [c8b0]) | skip)
         obtain ⟨ji9, hji9⟩ : ∃ j_ : Int, (wrap64 (x8_2 - 1)) = j_ := ⟨_, rfl⟩; replace H : (if 0 ≤ (ji9) then (if (ji9) < (a0.size : Int) then (if 0 ≤ x8_2 then (spec_LongestRun.j2 k2 a0 x5_2 x6_2 x7_2 x8_2 ((bt a0 (ji9)) != (bt a0 x8_2))) else (none)) else (none)) else (none)) = some (r1, r2, r3) := by first | (rw [hji9] at H; exact H) | (simp only [hji9] at H ⊢; exact H)
         have hji9w : (IntKind.i64.wrap (x8_2 - 1)) = ji9 := (i64_w _).trans hji9
         by_cases c10 : 0 ≤ (ji9)
         ·
          rw [if_pos c10] at H; have c10b0 : decide (0 ≤ (ji9)) = true := decide_eq_true c10; clear c10
          by_cases c11 : (ji9) < (a0.size : Int)
          ·
           rw [if_pos c11] at H; have c11b0 : decide ((ji9) < (a0.size : Int)) = true := decide_eq_true c11; clear c11
           by_cases c13 : 0 ≤ x8_2
           ·
            rw [if_pos c13] at H; have c13b0 : decide (0 ≤ x8_2) = true := decide_eq_true c13; clear c13; have H' := a_ H; clear H; have p12 : 0 ≤ ((ji9) : Int) := of_decide_eq_true t2_; have q12 : (ji9) < (a0.size : Int) := of_decide_eq_true t2_; have hx12 := bt_at a0 (ji9); replace p12 := eq_true p12; replace q12 := eq_true q12; have p14 : 0 ≤ (x8_2 : Int) := of_decide_eq_true t2_; have q14 : x8_2 < (a0.size : Int) := of_decide_eq_true t2_; have hx14 := bt_at a0 x8_2; replace p14 := eq_true p14; replace q14 := eq_true q14
            go_wp2
            repeat (go_quiet (fail); try go_wp2)
            go_meet
            case rel => exact ⟨_, (((bt a0 (ji9)) != (bt a0 x8_2))), (by first | rfl | (simp; done) | (simp only [← hji9] <;> (first | rfl | simp)) | (simp [*]; done)), H', ⟨t43_⟩, by repeat (first | exact Drawn0.refl _ | apply Drawn0.step)⟩
           ·
            rw [if_neg c13] at H
            exact absurd H t19_
          ·
           rw [if_neg c11] at H
           exact absurd H t19_
         ·
          rw [if_neg c10] at H
          exact absurd H t19_
       case rest =>
        clear HC7; obtain ⟨kq, x33_6, rfl, HA, HJ6, ⟨mc6, rfl⟩⟩ := hcut
        cases kq with
        | zero => exact absurd HA.out (by simp [spec_LongestRun.j2])
        | succ kj6 =>
         have H := HA.out; clear HA; simp only [spec_LongestRun.j2] at H
         by_cases c15 : x33_6 = true
         ·
          subst c15; have H1 : (if 1 > x6_2 then (if 0 ≤ x8_2 then (if x8_2 ≤ (wrap64 (x8_2 + 1)) then (if (wrap64 (x8_2 + 1)) ≤ (a0.size : Int) then (spec_LongestRun.l0 kj6 a0 (a0.extract (x8_2 : Int).toNat ((wrap64 (x8_2 + 1)) : Int).toNat) 1 1 (wrap64 (x8_2 + 1))) else (none)) else (none)) else (none)) else (spec_LongestRun.l0 kj6 a0 x5_2 x6_2 1 (wrap64 (x8_2 + 1)))) = some (r1, r2, r3) := by rw [if_pos rfl] at H; exact H
          clear H; have H := H1; clear H1
          by_cases c16 : 1 > x6_2
          ·
           rw [if_pos c16] at H; have c16b0 : decide (x6_2 < 1) = true := decide_eq_true c16; clear c16
           by_cases c17 : 0 ≤ x8_2
           ·
            rw [if_pos c17] at H; have c17b0 := eq_true c17; have c17b1 : decide (0 ≤ x8_2) = true := decide_eq_true c17; clear c17
            by_cases c18 : x8_2 ≤ (wrap64 (x8_2 + 1))
            ·
             rw [if_pos c18] at H; have c18b0 := eq_true c18; have c18b1 : decide (x8_2 ≤ (wrap64 (x8_2 + 1))) = true := decide_eq_true c18
             by_cases c19 : (wrap64 (x8_2 + 1)) ≤ (a0.size : Int)
             ·
              rw [if_pos c19] at H; have c19b0 := eq_true c19; have c19b1 : decide ((wrap64 (x8_2 + 1)) ≤ (a0.size : Int)) = true := decide_eq_true c19; have H' := a_ H; clear H
              go_wp2
              repeat (go_quiet (fail); try go_wp2)
              go_roundg kj6
              case measure => have := HJ1.out; have := HK2.out; have := HJ6.out; omega
              case rel => exact ⟨(a0.extract (x8_2 : Int).toNat ((wrap64 (x8_2 + 1)) : Int).toNat), 1, 1, (wrap64 (x8_2 + 1)), t1_, t1_, t1_, t1_, H', ⟨t46_⟩, by repeat (first | exact Drawn0.refl _ | apply Drawn0.step)⟩
             ·
              rw [if_neg c19] at H
              exact absurd H t19_
            ·
             rw [if_neg c18] at H
             exact absurd H t19_
           ·
            rw [if_neg c17] at H
            exact absurd H t19_
          ·
           rw [if_neg c16] at H; have c16b0 : decide (x6_2 < 1) = false := decide_eq_false c16; clear c16; have H' := a_ H; clear H
           go_wp2
           repeat (go_quiet (fail); try go_wp2)
           go_roundg kj6
           case measure => have := HJ1.out; have := HK2.out; have := HJ6.out; omega
           case rel => exact ⟨(x5_2), (x6_2), 1, (wrap64 (x8_2 + 1)), t1_, t1_, t1_, t1_, H', ⟨t46_⟩, by repeat (first | exact Drawn0.refl _ | apply Drawn0.step)⟩
         ·
          replace c15 := Bool.eq_false_iff.mpr c15; subst c15; have H1 : (if (wrap64 (x7_2 + 1)) > x6_2 then (if 0 ≤ x8_2 then (if x8_2 ≤ (wrap64 (x8_2 + 1)) then (if (wrap64 (x8_2 + 1)) ≤ (a0.size : Int) then (spec_LongestRun.l0 kj6 a0 (a0.extract (x8_2 : Int).toNat ((wrap64 (x8_2 + 1)) : Int).toNat) (wrap64 (x7_2 + 1)) (wrap64 (x7_2 + 1)) (wrap64 (x8_2 + 1))) else (none)) else (none)) else (none)) else (spec_LongestRun.l0 kj6 a0 x5_2 x6_2 (wrap64 (x7_2 + 1)) (wrap64 (x8_2 + 1)))) = some (r1, r2, r3) := by rw [if_neg (show ¬ (false = true) by decide)] at H; exact H
          clear H; have H := H1; clear H1
          by_cases c20 : (wrap64 (x7_2 + 1)) > x6_2
          ·
           rw [if_pos c20] at H; have c20b0 : decide (x6_2 < (wrap64 (x7_2 + 1))) = true := decide_eq_true c20; clear c20
           by_cases c21 : 0 ≤ x8_2
           ·
            rw [if_pos c21] at H; have c21b0 := eq_true c21; have c21b1 : decide (0 ≤ x8_2) = true := decide_eq_true c21; clear c21
            by_cases c22 : x8_2 ≤ (wrap64 (x8_2 + 1))
            ·
             rw [if_pos c22] at H; have c22b0 := eq_true c22; have c22b1 : decide (x8_2 ≤ (wrap64 (x8_2 + 1))) = true := decide_eq_true c22
             by_cases c23 : (wrap64 (x8_2 + 1)) ≤ (a0.size : Int)
             ·
              rw [if_pos c23] at H; have c23b0 := eq_true c23; have c23b1 : decide ((wrap64 (x8_2 + 1)) ≤ (a0.size : Int)) = true := decide_eq_true c23; have H' := a_ H; clear H
              go_wp2
              repeat (go_quiet (fail); try go_wp2)
              go_roundg kj6
              case measure => have := HJ1.out; have := HK2.out; have := HJ6.out; omega
              case rel => exact ⟨(a0.extract (x8_2 : Int).toNat ((wrap64 (x8_2 + 1)) : Int).toNat), (wrap64 (x7_2 + 1)), (wrap64 (x7_2 + 1)), (wrap64 (x8_2 + 1)), t1_, t1_, t1_, t1_, H', ⟨t46_⟩, by repeat (first | exact Drawn0.refl _ | apply Drawn0.step)⟩
             ·
              rw [if_neg c23] at H
              exact absurd H t19_
            ·
             rw [if_neg c22] at H
             exact absurd H t19_
           ·
            rw [if_neg c21] at H
            exact absurd H t19_
          ·
           rw [if_neg c20] at H; have c20b0 : decide (x6_2 < (wrap64 (x7_2 + 1))) = false := decide_eq_false c20; clear c20; have H' := a_ H; clear H
           go_wp2
           repeat (go_quiet (fail); try go_wp2)
           go_roundg kj6
           case measure => have := HJ1.out; have := HK2.out; have := HJ6.out; omega
           case rel => exact ⟨(x5_2), (x6_2), (wrap64 (x7_2 + 1)), (wrap64 (x8_2 + 1)), t1_, t1_, t1_, t1_, H', ⟨t46_⟩, by repeat (first | exact Drawn0.refl _ | apply Drawn0.step)⟩
      ·
       rw [if_neg c6] at H; have c6b0 : decide (x8_2 < (a0.size : Int)) = false := decide_eq_false c6; clear c6; simp only [Option.some.injEq, Prod.mk.injEq] at H; obtain ⟨rfl, rfl, rfl⟩ := H
       go_wp2
       repeat (go_quiet (fail); try go_wp2)
       go_ret3
       exact ⟨by first | rfl | (simp; done) | (simp [*]; done), by repeat (first | exact Drawn0.refl _ | apply Drawn0.step)⟩
def spec_DrawServersOf.f (k : Nat) (l0 : List Int) : Option (ByteArray × Int) := (mkCur.f l0).bind fun bt350 => ((spec_l1Cur_play.f k bt350.1 bt350.2.1 bt350.2.2).bind fun bt354 => ((spec_l1Cur_among.f bt350.1 bt354.2.2.2.1 bt354.2.2.2.2 (([1, 2, 2, 3, 5, 10, 11, 0] : List Int))).bind fun bt363 => (some (bt354.2.2.1, bt363.1))))
set_option maxHeartbeats 8000000 in
set_option maxRecDepth 100000 in
theorem spec_DrawServersOf.calls (k : Nat) (A0 : Option Addr) (c0 : Nat) (l0 : List Int) (r1 : ByteArray) (r2 : Int) (w : World) (hr0 : Kd.C (Kd.int .u8) w A0 l0.length l0) (hc0 : l0.length ≤ c0) (h : spec_DrawServersOf.f k l0 = some (r1, r2)) :
  Calls Tryz.prog 24 #[.slice A0 l0.length c0] w fun e w' => e = .returned (.tuple #[.string r1, .int .i64 r2]) ∧ Below w.heap.size w w' := by
 have hu25 := Tryz.underlying25; have HR0 := a_ hr0; have HC0 := a_ hc0; clear hr0 hc0; have HB := a_ (Below.refl w.heap.size w); have H : ((mkCur.f l0).bind fun bt350 => ((spec_l1Cur_play.f k bt350.1 bt350.2.1 bt350.2.2).bind fun bt354 => ((spec_l1Cur_among.f bt350.1 bt354.2.2.2.1 bt354.2.2.2.2 (([1, 2, 2, 3, 5, 10, 11, 0] : List Int))).bind fun bt363 => (some (bt354.2.2.1, bt363.1))))) = some (r1, r2) := h; clear h; replace H := Option.bind_eq_some_iff.mp H; obtain ⟨⟨t350, t351, t352⟩, A20, H⟩ := H; replace H : ((spec_l1Cur_play.f k t350 t351 t352).bind fun bt354 => ((spec_l1Cur_among.f t350 bt354.2.2.2.1 bt354.2.2.2.2 (([1, 2, 2, 3, 5, 10, 11, 0] : List Int))).bind fun bt363 => (some (bt354.2.2.1, bt363.1)))) = some (r1, r2) := H; have A2 := a_ A20; clear A20; replace H := Option.bind_eq_some_iff.mp H; obtain ⟨⟨t354, t355, t356, t357, t358⟩, A30, H⟩ := H; replace H : ((spec_l1Cur_among.f t350 t357 t358 (([1, 2, 2, 3, 5, 10, 11, 0] : List Int))).bind fun bt363 => (some (t356, bt363.1))) = some (r1, r2) := H; have A3 := a_ A30; clear A30; obtain ⟨y360, hy360⟩ : ∃ y_ : List Int, y_ = (([1, 2, 2, 3, 5, 10, 11, 0] : List Int)) := ⟨_, rfl⟩; replace H : ((spec_l1Cur_among.f t350 t357 t358 y360).bind fun bt363 => (some (t356, bt363.1))) = some (r1, r2) := by first | (rw [hy360]; with_reducible exact H) | (have H2_ := (Option.bind_some _ _).symm.trans H; rw [hy360]; with_reducible exact H2_) | (have H2_ := (Option.bind_some _ _).symm.trans H; with_reducible exact H2_) | with_reducible exact H | (rw [hy360]; exact H) | exact H
 have Ny360 := a_ hy360; clear hy360; replace H := Option.bind_eq_some_iff.mp H; obtain ⟨⟨t363, t364, t365⟩, A40, H⟩ := H; replace H : (some (t356, t363)) = some (r1, r2) := H; have A4 := a_ A40; clear A40; simp only [Option.some.injEq, Prod.mk.injEq] at H; obtain ⟨rfl, rfl⟩ := H
 go_enter Tryz.func24, Tryz.ntmps24
 go_wp2_with (first | ((with_reducible refine gate_dst (N := 9) rfl ?_); refine box_event ?hg (N := 9) ?hd (cs := #[.slice A0 l0.length c0, .int .i64 0, .int .u64 0]) (t := 68) ?hr ?_; (case hd => rfl); (case hg => rfl); (case hr => first | (go_simp; done) | (go_simp; rfl)); intro g353 hg w5 hbox hb2; have hge_ : w.heap.size ≤ g353 := (by rw [hg]; exact (below_size (L_ HB.out (Nat.le_refl _) (Nat.le_refl _) (Nat.le_refl _)))); have hb := below_step (L_ HB.out (Nat.le_refl _) (Nat.le_refl _) (Nat.le_refl _)) hb2; have hi : IsS68 w w5 g353 t350 t351 t352 := t32_; clear hge_ hg hbox; have n0_ := a_ (hb); have n1_ := a_ (hi); clear HB; have HB := n0_; have HI353 := n1_; clear n0_ n1_; (try clear hb); (try clear hb2); (try clear hk); (try clear hi)) | ((with_reducible refine gate_callee (f := 48) rfl ?_); refine goesL_ (some 12) rfl rfl Tryz.func48 t9_ rfl #[.pointer (some ⟨g353, 0, none⟩)] rfl (by (try simp only [m1_, m2_, m3_]); first | done | rfl) ?_; (with_reducible refine (spec_l1Cur_play.calls k g353 t350 t351 t352 t354 t355 t356 t357 t358 w _ ?side1 ?side2 A3.out).mono ?_); (case side1 => repeat (first | (with_reducible first | exact HI353.out | apply IsS68.alloc | apply IsS68.drewN | apply IsS68.drew | apply IsS68.set_1 | apply IsS68.set_2) | exact HI353.out)); (case side2 => repeat (first | (with_reducible first | exact HB.out | apply below_alloc | apply pw_below_drewN | apply below_drew1 | refine below_set ?_ (IsS68.ge HI353.out)) | exact HB.out)); rintro e w6 ⟨rfl, hi, hb, hk⟩; refine ⟨_, rfl, ?_⟩; have n0_ := a_ (hb); have n1_ := a_ (hi); clear HB; clear HI353; have HB := n0_; have HI353 := n1_; clear n0_ n1_; (try clear hb); (try clear hb2); (try clear hk); (try clear hi)) | ((with_reducible refine gate_dst (N := 5) rfl ?_); refine box_event ?hg (N := 5) ?hd (cs := #[.int .i64 0, .int .i64 0]) (t := 25) ?hr ?_; (case hd => rfl); (case hg => rfl); (case hr => first | (go_simp; done) | (go_simp; rfl)); intro gb359 hg w7 hbox hb; have n0_ := a_ (IsS68.below (by repeat (first | (with_reducible first | exact HI353.out | apply IsS68.alloc | apply IsS68.drewN | apply IsS68.drew | apply IsS68.set_1 | apply IsS68.set_2) | exact HI353.out)) hb); have n1_ := a_ (below_step t34_ hb); have n2_ := a_ (hbox); have n3_ := a_ ((by rw [hg]; exact (below_size t34_) : w.heap.size ≤ gb359)); have n4_ := a_ ((by rw [hg]; exact (below_size t34_) : w.heap.size ≤ gb359)); have n5_ := a_ ((by rw [hg]; exact Nat.ne_of_lt (IsS68.lt (show IsS68 w _ g353 t350 t357 t358 from by repeat (first | (with_reducible first | exact HI353.out | apply IsS68.alloc | apply IsS68.drewN | apply IsS68.drew | apply IsS68.set_1 | apply IsS68.set_2) | exact HI353.out))) : g353 ≠ gb359)); have n6_ := a_ ((by rw [hg]; exact Nat.ne_of_gt (IsS68.lt (show IsS68 w _ g353 t350 t357 t358 from by repeat (first | (with_reducible first | exact HI353.out | apply IsS68.alloc | apply IsS68.drewN | apply IsS68.drew | apply IsS68.set_1 | apply IsS68.set_2) | exact HI353.out))) : gb359 ≠ g353)); clear HI353; clear HB; have HI353 := n0_; have HB := n1_; have BK359 := n2_; have GW359 := n3_; have GE359 := n4_; have NB353_359 := n5_; have NB359_353 := n6_; clear n0_ n1_ n2_ n3_ n4_ n5_ n6_; clear hb hbox hg; have hnb8 := NB359_353.out; have hnc8 := NB353_359.out; have hcz9_0 : w7.cell? ⟨gb359, 0, none⟩ = some (.int .i64 0) := c_ BK359.out 0; have hcz9_1 : w7.cell? ⟨gb359, 1, none⟩ = some (.int .i64 0) := c_ BK359.out 1; have hfz9_0 := blk_frozen BK359.out 0; have hfz9_1 := blk_frozen BK359.out 1) | ((with_reducible refine gate_dst (N := 17) rfl ?_); refine Kd.R_lit (Kd.int .i64) _ 3 ?hg (N := 17) ?hd (xs := ([1, 2, 2, 3, 5, 10, 11, 0] : List Int)) (inner := [.int .i64 1, .int .i64 2, .int .i64 2, .int .i64 3, .int .i64 5, .int .i64 10, .int .i64 11, .int .i64 0]) (ok := fun _ => True) (okp := fun _ => True) ?hr ?hp (fun _ hk => hk) trivial (Below.refl _ _) (Nat.le_refl _) t19_ ?_; (case hd => rfl); (case hg => rfl); (case hr => first | (go_simp; done) | (go_simp; rfl)); (case hp => exact (Reps.one (show Kd.M (Kd.int .i64) _ _ _ 1 [.int .i64 1] from rfl) (Reps.one (show Kd.M (Kd.int .i64) _ _ _ 2 [.int .i64 2] from rfl) (Reps.one (show Kd.M (Kd.int .i64) _ _ _ 2 [.int .i64 2] from rfl) (Reps.one (show Kd.M (Kd.int .i64) _ _ _ 3 [.int .i64 3] from rfl) (Reps.one (show Kd.M (Kd.int .i64) _ _ _ 5 [.int .i64 5] from rfl) (Reps.one (show Kd.M (Kd.int .i64) _ _ _ 10 [.int .i64 10] from rfl) (Reps.one (show Kd.M (Kd.int .i64) _ _ _ 11 [.int .i64 11] from rfl) (Reps.one (show Kd.M (Kd.int .i64) _ _ _ 0 [.int .i64 0] from rfl) (Reps.none _ _)))))))))); intro v361 w10 ho11 hb hg_ hnew_; clear hg_ hnew_; (first | rw [← Ny360.out] at ho11 | (simp only [Int.reduceToNat] at ho11; rw [← Ny360.out] at ho11)); have n0_ := a_ (Kd.R_lower ho11 (below_size t42_)); have n1_ := a_ (IsS68.below (show IsS68 w ((w7.setCell ⟨gb359, 0, none⟩ (.int .i64 t354)).setCell ⟨gb359, 1, none⟩ (.int .i64 t355)) g353 t350 t357 t358 from by repeat (first | (with_reducible first | exact HI353.out | apply IsS68.alloc | apply IsS68.drewN | apply IsS68.drew | apply IsS68.set_1 | apply IsS68.set_2 | refine IsS68.far ?_ NB353_359.out _) | exact HI353.out)) hb); have n2_ := a_ (blk_below (g := gb359) (o := .cells #[.int .i64 t354, .int .i64 t355] 25 (0, 0)) (by (with_reducible repeat (first | refine blk_drewN ?_ _ | refine blk_drew ?_ | refine blk_alloc ?_ _)); refine blk_put (cs := #[.int .i64 t354, .int .i64 0]) ?_ 1 _ rfl; (with_reducible repeat (first | refine blk_drewN ?_ _ | refine blk_drew ?_ | refine blk_alloc ?_ _)); refine blk_put (cs := #[.int .i64 0, .int .i64 0]) ?_ 0 _ rfl; exact B_ BK359.out) hb); have n3_ := a_ (below_step t42_ hb); clear HI353; clear BK359; clear HB; have HO362 := n0_; have HI353 := n1_; have BK359 := n2_; have HB := n3_; clear n0_ n1_ n2_ n3_; clear hb ho11; obtain ⟨Ao12, co12, eo12⟩ := Kd.R_slice HO362.out; subst eo12) | ((with_reducible refine gate_callee (f := 50) rfl ?_); refine goesL_ (some 18) rfl rfl Tryz.func50 t9_ rfl #[.pointer (some ⟨g353, 0, none⟩), .slice Ao12 y360.length co12] rfl (by (try simp only [m1_, m2_, m3_]); first | done | rfl) ?_; (with_reducible refine (spec_l1Cur_among.calls g353 t350 t357 t358 _ _ y360 t363 t364 t365 w _ ?side1 ?side2 ?side3 ?side4 ?side5 A4.out).mono ?_); (case side1 => repeat (first | (with_reducible first | exact HI353.out | apply IsS68.alloc | apply IsS68.drewN | apply IsS68.drew | apply IsS68.set_1 | apply IsS68.set_2 | refine IsS68.far ?_ NB353_359.out _) | exact HI353.out)); (case side2 => repeat (first | (with_reducible first | exact HB.out | apply below_alloc | apply pw_below_drewN | apply below_drew1 | refine below_set ?_ (IsS68.ge HI353.out) | refine below_set ?_ GE359.out) | exact HB.out)); (case side3 => repeat (first | exact (Kd.R_reads' HO362.out).2.2 | (with_reducible refine Kd.C_alloc ?_ _) | (with_reducible refine Kd.C_drewN ?_ _) | (with_reducible refine Kd.C_drew ?_))); (case side4 => exact (Kd.R_reads' HO362.out).2.1); (case side5 => exact far_slice (IsS68.own_ne HI353.out HO362.out t40_)); rintro e w13 ⟨rfl, hi, hb, hk⟩; refine ⟨_, rfl, ?_⟩; have n0_ := a_ (KeepBut.blk hk (g' := gb359) (o := .cells #[.int .i64 t354, .int .i64 t355] 25 (0, 0)) (B_ BK359.out) NB359_353.out t19_); have n1_ := a_ (Kd.R_mono (Kd.R_keep (IsS68.apart (show IsS68 w _ g353 t350 t357 t358 from by repeat (first | (with_reducible first | exact HI353.out | apply IsS68.alloc | apply IsS68.drewN | apply IsS68.drew | apply IsS68.set_1 | apply IsS68.set_2 | refine IsS68.far ?_ NB353_359.out _) | exact HI353.out)) (R_ HO362.out) t40_) hk (fun _ h => h.2)) (fun _ h => h.1)); have n2_ := a_ (hb); have n3_ := a_ (hi); clear BK359; clear HO362; clear HB; clear HI353; have BK359 := n0_; have HO362 := n1_; have HB := n2_; have HI353 := n3_; clear n0_ n1_ n2_ n3_; (try clear hb); (try clear hb2); (try clear hk); (try clear hi)))
 go_ret2
 exact ⟨by first | rfl | (simp [errW_none, errW_some] <;> rfl) | (simp [*, errW_none, errW_some] <;> rfl), by repeat (first | (with_reducible first | exact HB.out | apply below_alloc | apply pw_below_drewN | apply below_drew1 | refine below_set ?_ (IsS68.ge HI353.out) | refine below_set ?_ GE359.out) | exact HB.out)⟩
end Go.Proofs.YtiknaldhjbdnbaaGreatDoor.QFnRacesWon
