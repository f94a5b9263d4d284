import Derived.Test.YthcbaogbncakdaaGreatDoorcQFnGoalsReachedx0
import Derived.Test.YthcbaogbncakdaaGreatDoorcQFnGoalsReachedx2
import Derived.Test.YthcbaogbncakdaaGreatDoorcQFnGoalsReachedx6
import Derived.Test.YthcbaogbncakdaaGreatDoorcGQ
namespace Go.Proofs.YthcbaogbncakdaaGreatDoor.QFnGoalsReached
open Go.RowKit Go.Proofs.YthcbaogbncakdaaGreatDoorW.PrintWords Go.Proofs.YthcbaogbncakdaaGreatDoorW.PrintLast Go.Proofs.YthcbaogbncakdaaGreatDoorW.PrintMore Go.Proofs.YthcbaogbncakdaaGreatDoor.Sh
attribute [local go_sem] max2_int min2_int max_two min_two max_three min_three max_four min_four
set_option linter.unusedVariables false
set_option linter.unusedSimpArgs false
mutual
def impl_CountGoalOrders.l0 : Nat → List Int → Int → List Int → Int → Option (Int × Bool)
 | 0, _, _, _, _ => none
 | k + 1, x0, x1, x6, x7 => if x7 ≤ x1 then (impl_CountGoalOrders.l1 k x0 x1 x6 x7 x0 (x0.length : Int) 0) else (if 0 ≤ x1 then (if x1 < (x6.length : Int) then ((impl_few.f (rd x6 x1) 1000000000000000).bind fun bt277 => (some (bt277.1, bt277.2))) else (none)) else (none))
def impl_CountGoalOrders.l1 : Nat → List Int → Int → List Int → Int → List Int → Int → Int → Option (Int × Bool)
 | 0, _, _, _, _, _, _, _ => none
 | k + 1, x0, x1, x6, x7, x24, x25, x26 => if x26 < x25 then (if 0 ≤ x26 then (if x26 < (x24.length : Int) then (if (rd x24 x26) ≤ x7 then (if 0 ≤ x7 then (if x7 < (x6.length : Int) then (if 0 ≤ (wrap64 (x7 - (rd x24 x26))) then (if (wrap64 (x7 - (rd x24 x26))) < (x6.length : Int) then (impl_CountGoalOrders.l1 k x0 x1 (x6.set (x7 : Int).toNat (mn (wrap64 ((rd x6 x7) + (rd x6 (wrap64 (x7 - (rd x24 x26)))))) 1000000000000001)) x7 x24 x25 (wrap64 (x26 + 1))) else (none)) else (none)) else (none)) else (none)) else (impl_CountGoalOrders.l1 k x0 x1 x6 x7 x24 x25 (wrap64 (x26 + 1)))) else (none)) else (none)) else (impl_CountGoalOrders.l0 k x0 x1 x6 (wrap64 (x7 + 1)))
end
def impl_CountGoalOrders.f (k : Nat) (l0 : List Int) (a1 : Int) : Option (Int × Bool) := (impl_isAsked.f k l0 a1).bind fun t271 => (if t271 = true then (if 0 ≤ (wrap64 (a1 + 1)) then (if (wrap64 (a1 + 1) : Int).toNat ≤ 35184372088832 then ((some (List.replicate (wrap64 (a1 + 1) : Int).toNat 0 : List Int)).bind fun y272 => (if 0 < (y272.length : Int) then (impl_CountGoalOrders.l0 k l0 a1 (y272.set (0 : Int).toNat 1) 1) else (none))) else (none)) else (none)) else (some (0, false)))
def impl_CountGoalOrders.T12 : Bool × List (List Nat × List Nat) := (true, [([], []), ([], []), ([], []), ([], []), ([2, 3], [2, 3]), ([4], [4]), ([], []), ([], []), ([], []), ([7, 8], [7, 8]), ([6, 9], [6, 9]), ([10], [10]), ([5, 11], [5, 11]), ([12], [12]), ([0, 1, 0, 1, 2, 3, 4, 5, 6, 7, 8, 9, 10, 11, 12, 13], [0, 1]), ([14, 13, 0, 1, 2, 3, 4, 5, 6, 7, 8, 9, 10, 11, 12, 13], [13, 14])])
def impl_CountGoalOrders.B12 : List Nat := [0, 0, 0, 0, 12, 28, 0, 0, 0, 384, 960, 1984, 4092, 8188, 16383, 32767]
theorem impl_CountGoalOrders.tab12 : rtab .any (opsOf Tryz.f14 12) = impl_CountGoalOrders.T12 := by kernel_rfl
theorem impl_CountGoalOrders.bits12 : waitsOk impl_CountGoalOrders.T12.2 impl_CountGoalOrders.B12 = true := by kernel_rfl
set_option maxHeartbeats 8000000 in
set_option maxRecDepth 100000 in
theorem impl_CountGoalOrders.calls (k : Nat) (A0 : Option Addr) (c0 : Nat) (l0 : List Int) (a1 : Int) (r1 : Int) (r2 : Bool) (w : World) (hr0 : Kd.C (Kd.int .i64) w A0 l0.length l0) (hc0 : l0.length ≤ c0) (h : impl_CountGoalOrders.f k l0 a1 = some (r1, r2)) :
  Calls Tryz.prog 14 #[.slice A0 l0.length c0, .int .i64 a1] w fun e w' => e = .returned (.tuple #[.int .i64 r1, .bool r2]) ∧ Below w.heap.size w w' := by
 have HR0 := a_ hr0; have HC0 := a_ hc0; clear hr0 hc0; have HB := a_ (Below.refl w.heap.size w); have H : ((impl_isAsked.f k l0 a1).bind fun t271 => (if t271 = true then (if 0 ≤ (wrap64 (a1 + 1)) then (if (wrap64 (a1 + 1) : Int).toNat ≤ 35184372088832 then ((some (List.replicate (wrap64 (a1 + 1) : Int).toNat 0 : List Int)).bind fun y272 => (if 0 < (y272.length : Int) then (impl_CountGoalOrders.l0 k l0 a1 (y272.set (0 : Int).toNat 1) 1) else (none))) else (none)) else (none)) else (some (0, false)))) = some (r1, r2) := h; clear h; replace H := Option.bind_eq_some_iff.mp H; obtain ⟨t271, A30, H⟩ := H; replace H : (if t271 = true then (if 0 ≤ (wrap64 (a1 + 1)) then (if (wrap64 (a1 + 1) : Int).toNat ≤ 35184372088832 then ((some (List.replicate (wrap64 (a1 + 1) : Int).toNat 0 : List Int)).bind fun y272 => (if 0 < (y272.length : Int) then (impl_CountGoalOrders.l0 k l0 a1 (y272.set (0 : Int).toNat 1) 1) else (none))) else (none)) else (none)) else (some (0, false))) = some (r1, r2) := H; have A3 := a_ A30; clear A30
 by_cases c4 : t271 = true
 ·
  subst c4; have H1 : (if 0 ≤ (wrap64 (a1 + 1)) then (if (wrap64 (a1 + 1) : Int).toNat ≤ 35184372088832 then ((some (List.replicate (wrap64 (a1 + 1) : Int).toNat 0 : List Int)).bind fun y272 => (if 0 < (y272.length : Int) then (impl_CountGoalOrders.l0 k l0 a1 (y272.set (0 : Int).toNat 1) 1) else (none))) else (none)) else (none)) = some (r1, r2) := by rw [if_pos rfl] at H; exact H
  clear H; have H := H1; clear H1; obtain ⟨ji5, hji5⟩ : ∃ j_ : Int, (wrap64 (a1 + 1)) = j_ := ⟨_, rfl⟩; replace H : (if 0 ≤ (ji5) then (if (ji5 : Int).toNat ≤ 35184372088832 then ((some (List.replicate (ji5 : Int).toNat 0 : List Int)).bind fun y272 => (if 0 < (y272.length : Int) then (impl_CountGoalOrders.l0 k l0 a1 (y272.set (0 : Int).toNat 1) 1) else (none))) else (none)) else (none)) = some (r1, r2) := by first | (rw [hji5] at H; exact H) | (simp only [hji5] at H ⊢; exact H)
  (try rw [hji5] at A3)
  have hji5w : (IntKind.i64.wrap (a1 + 1)) = ji5 := (i64_w _).trans hji5
  by_cases c6 : 0 ≤ (ji5)
  ·
   rw [if_pos c6] at H; have c6b0 := eq_true c6; have c6b1 : decide (0 ≤ (ji5)) = true := decide_eq_true c6; clear c6
   by_cases c7 : (ji5 : Int).toNat ≤ 35184372088832
   ·
    rw [if_pos c7] at H; have c7b0 := eq_true c7; have c7b1 : decide ((ji5 : Int).toNat ≤ 35184372088832) = true := decide_eq_true c7; clear c7; obtain ⟨y272, hy272⟩ : ∃ y_ : List Int, y_ = (List.replicate (ji5 : Int).toNat 0) := ⟨_, rfl⟩; replace H : (if 0 < (y272.length : Int) then (impl_CountGoalOrders.l0 k l0 a1 (y272.set (0 : Int).toNat 1) 1) else (none)) = some (r1, r2) := by first | (rw [hy272]; with_reducible exact H) | (have H2_ := (Option.bind_some _ _).symm.trans H; rw [hy272]; with_reducible exact H2_) | (have H2_ := (Option.bind_some _ _).symm.trans H; with_reducible exact H2_) | with_reducible exact H | (rw [hy272]; exact H) | exact H
    have Ny272 := a_ hy272; clear hy272
    by_cases c8 : 0 < (y272.length : Int)
    ·
     rw [if_pos c8] at H; have c8b0 : decide (0 < (y272.length : Int)) = true := decide_eq_true c8; have c8b1 : decide (0 < y272.length) = true := decide_eq_true t18_; clear c8; obtain ⟨y275, hy275⟩ : ∃ y_ : List Int, y_ = (y272.set (0 : Int).toNat 1) := ⟨_, rfl⟩; replace H : (impl_CountGoalOrders.l0 k l0 a1 y275 1) = some (r1, r2) := by first | (rw [hy275]; with_reducible exact H) | (have H2_ := (Option.bind_some _ _).symm.trans H; rw [hy275]; with_reducible exact H2_) | (have H2_ := (Option.bind_some _ _).symm.trans H; with_reducible exact H2_) | with_reducible exact H | (rw [hy275]; exact H) | exact H
     have Ny275 := a_ hy275; clear hy275; have H' := a_ H; clear H
     go_enter Tryz.func14, Tryz.ntmps14
     go_wp2_with (first | ((with_reducible refine gate_callee (f := 38) rfl ?_); refine goesL_ (some 12) rfl rfl Tryz.func38 t7_ rfl #[.slice A0 l0.length c0, .int .i64 a1] rfl (by (try simp only [m1_, m2_, m3_]); first | done | rfl) ?_; (with_reducible refine (impl_isAsked.calls k _ _ l0 a1 true _ ?side1 ?side2 A3.out).mono ?_); (case side1 => repeat (first | exact HR0.out | (with_reducible refine Kd.C_alloc ?_ _) | (with_reducible refine Kd.C_drewN ?_ _) | (with_reducible refine Kd.C_drew ?_))); (case side2 => exact HC0.out); rintro e w' ⟨rfl, ⟨nd, rfl⟩⟩; refine ⟨_, rfl, ?_⟩) | ((with_reducible refine gate_dst (N := 16) rfl ?_); refine Kd.R_make (Kd.int .i64) _ 3 rfl (N := 16) rfl 24 _ _ rfl ji5 rfl rfl Tryz.underlying24 (.int .i64 0) 8 info3 rfl t19_ t18_ 0 (ok := fun _ => True) (okp := fun _ => True) rfl (fun _ hk => hk) trivial (of_decide_eq_true t0_) (Nat.le_trans (Nat.mul_le_mul_right _ (of_decide_eq_true t0_ : ji5.toNat ≤ 35184372088832)) t18_) (Below.refl _ _) (Nat.le_refl _) ?_; intro v273 w10 ho11 hb hg_ hnew_; clear hg_ hnew_; (first | rw [← Ny272.out] at ho11 | (simp only [Int.reduceToNat] at ho11; rw [← Ny272.out] at ho11)); have n0_ := a_ (Kd.R_lower ho11 (below_size (L_ HB.out (Nat.le_refl _) (Nat.le_refl _) (Nat.le_refl _)))); have n1_ := a_ (below_step (L_ HB.out (Nat.le_refl _) (Nat.le_refl _) (Nat.le_refl _)) hb); clear HB; have HO274 := n0_; have HB := n1_; clear n0_ n1_; clear hb ho11; have p9 : 0 ≤ (0 : Int) := t18_; have q9 : (0 : Int) < ((y272.length : Int) : Int) := of_decide_eq_true t0_; have qi9 : (0 < y272.length) = True := eq_true t18_; obtain ⟨go9, co9, eo9, gb9, gl9, cl9, HG9⟩ := Kd.R_form HO274.out t18_; (first | cases eo9 | (injection eo9 with ea_ en_ ec_; (first | subst ea_ | (injection ea_ with ea_; subst ea_)); subst ec_; clear en_)); have GB9 := a_ gb9; have GG9 := a_ HG9; clear gb9 gl9 HG9; obtain ⟨hx9_0, hf9_0⟩ := Kd.R_celln 0 HO274.out (0 : Int) p9 q9; (try rw [show ((0 : Int)).toNat = 0 from rfl] at hx9_0); (try simp only [Nat.reduceMul, Nat.zero_mul, Nat.zero_add, Nat.reduceAdd] at hx9_0); (try rw [show ((0 : Int)).toNat = 0 from rfl] at hf9_0); (try simp only [Nat.reduceMul, Nat.zero_mul, Nat.zero_add, Nat.reduceAdd] at hf9_0); replace p9 := eq_true p9; replace q9 := eq_true q9; obtain ⟨hy12_, hz12_⟩ := Kd.R_celln 0 HO274.out (0 : Int) t18_ (of_decide_eq_true t0_); (try simp only [Int.reduceToNat, Int.toNat_zero, Int.toNat_ofNat, Nat.reduceMul, Nat.zero_mul, Nat.zero_add] at hy12_ hz12_); (try rw [show ((0 : Int)).toNat = 0 from rfl] at hy12_); (try rw [show ((0 : Int)).toNat = 0 from rfl] at hz12_); have HP12 := Kd.R_putg HO274.out (0 : Int) 1) | ((with_reducible refine gate_store (t := 3) (p := 18) rfl ?_); refine store_event (t := 3) (p := 18) (v := ?vo_w13) (w1 := (w10.setCell ⟨go9, (0 : Int).toNat, none⟩ (.int .i64 1))) ?hg ?ho ?hn ?hr ?_; (case ho => rfl); (case hg => rfl); (case hn => rfl); (case hr => first | (go_simp; done) | (go_simp; rfl)); intro w13 hw; have hg : w10.grownBy w13 (some go9) := t26_; have hp_ : Kd.R (Kd.int .i64) 3 w13 w.heap.size (fun _ => True) (.slice (some ⟨go9, 0, none⟩) y272.length co9) y275 := (by rw [hw, Ny275.out]; exact HP12.1); clear HP12; have n0_ := a_ (hp_); have n1_ := a_ ((by rw [hw]; exact below_set (HB.out) GB9.out : Below w.heap.size w w13)); clear HO274; clear HB; have HO274 := n0_; have HB := n1_; clear n0_ n1_; clear hg hw hp_))
     go_loopg [7] k (fun kq v7 w' => ∃ (x6_1 : List Int) (x7_1 : Int), v7 = .int .i64 x7_1 ∧ Aside0 (impl_CountGoalOrders.l0 kq l0 a1 x6_1 x7_1 = some (r1, r2)) ∧ Aside0 (kq ≤ k) ∧ Aside0 (Kd.R (Kd.int .i64) 3 w' w.heap.size (fun _ => True) (.slice (some ⟨go9, 0, none⟩) y272.length co9) x6_1) ∧ Aside0 (Below w.heap.size w w'))
     case atStart => exact ⟨(y275), (1), t2_, H', ⟨Nat.le_refl _⟩, ⟨R_ HO274.out⟩, ⟨L_ HB.out (Nat.le_refl _) (Nat.le_refl _) (Nat.le_refl _)⟩⟩
     case round =>
      clear H'; obtain ⟨x6_1, x7_1, rfl, HA, HK1, HO_6, HB⟩ := hrel; have hl6_1 := (Kd.R_reads' HO_6.out).1; rw [hl6_1] at HO_6
      (try simp only [hl6_1])
      cases gk with
      | zero => exact absurd HA.out (by simp [impl_CountGoalOrders.l0])
      | succ k1 =>
       have H := HA.out; clear HA; simp only [impl_CountGoalOrders.l0] at H
       by_cases c14 : x7_1 ≤ a1
       ·
        rw [if_pos c14] at H; have c14b0 : decide (x7_1 ≤ a1) = true := decide_eq_true c14; clear c14; have H' := a_ H; clear H
        go_wp2
        go_loopg [26] k1 (fun kq v26 w' => ∃ (x6_2 : List Int) (x26_2 : Int), v26 = .int .i64 x26_2 ∧ Aside0 (impl_CountGoalOrders.l1 kq l0 a1 x6_2 x7_1 l0 (l0.length : Int) x26_2 = some (r1, r2)) ∧ Aside0 (kq ≤ k1) ∧ Aside0 (Kd.R (Kd.int .i64) 3 w' w.heap.size (fun _ => True) (.slice (some ⟨go9, 0, none⟩) x6_1.length co9) x6_2) ∧ Aside0 (Below w.heap.size w w'))
        case atStart => exact ⟨(x6_1), (0), t2_, H', ⟨Nat.le_refl _⟩, ⟨t20_⟩, ⟨L_ HB.out (Nat.le_refl _) (Nat.le_refl _) (Nat.le_refl _)⟩⟩
        case round =>
         clear H'; obtain ⟨x6_2, x26_2, rfl, HA, HK2, HO_6, HB⟩ := hrel; have hl6_2 := (Kd.R_reads' HO_6.out).1; rw [hl6_2] at HO_6
         (try simp only [hl6_2])
         cases gk with
         | zero => exact absurd HA.out (by simp [impl_CountGoalOrders.l1])
         | succ k2 =>
          have H := HA.out; clear HA; simp only [impl_CountGoalOrders.l1] at H
          by_cases c15 : x26_2 < (l0.length : Int)
          ·
           rw [if_pos c15] at H; have c15b0 : decide (x26_2 < (l0.length : Int)) = true := decide_eq_true c15; clear c15
           by_cases c16 : 0 ≤ x26_2
           ·
            rw [if_pos c16] at H; have c16b0 : decide (0 ≤ x26_2) = true := decide_eq_true c16; clear c16
            by_cases c17 : x26_2 < (l0.length : Int)
            ·
             rw [if_pos c17] at H; have c17b0 : decide (x26_2 < (l0.length : Int)) = true := decide_eq_true c17; clear c17
             by_cases c18 : (rd l0 x26_2) ≤ x7_1
             ·
              rw [if_pos c18] at H; have c18b0 : decide ((rd l0 x26_2) ≤ x7_1) = true := decide_eq_true c18; clear c18
              by_cases c19 : 0 ≤ x7_1
              ·
               rw [if_pos c19] at H; have c19b0 : decide (0 ≤ x7_1) = true := decide_eq_true c19; clear c19
               by_cases c20 : x7_1 < (x6_2.length : Int)
               ·
                rw [if_pos c20] at H; have c20b0 : decide (x7_1 < (x6_2.length : Int)) = true := decide_eq_true c20; clear c20; obtain ⟨ji21, hji21⟩ : ∃ j_ : Int, (wrap64 (x7_1 - (rd l0 x26_2))) = j_ := ⟨_, rfl⟩; replace H : (if 0 ≤ (ji21) then (if (ji21) < (x6_2.length : Int) then (impl_CountGoalOrders.l1 k2 l0 a1 (x6_2.set (x7_1 : Int).toNat (mn (wrap64 ((rd x6_2 x7_1) + (rd x6_2 (ji21)))) 1000000000000001)) x7_1 l0 (l0.length : Int) (wrap64 (x26_2 + 1))) else (none)) else (none)) = some (r1, r2) := by first | (rw [hji21] at H; exact H) | (simp only [hji21] at H ⊢; exact H)
                have hji21w : (IntKind.i64.wrap (x7_1 - (rd l0 x26_2))) = ji21 := (i64_w _).trans hji21
                by_cases c22 : 0 ≤ (ji21)
                ·
                 rw [if_pos c22] at H; have c22b0 : decide (0 ≤ (ji21)) = true := decide_eq_true c22; clear c22
                 by_cases c23 : (ji21) < (x6_2.length : Int)
                 ·
                  rw [if_pos c23] at H; have c23b0 : decide ((ji21) < (x6_2.length : Int)) = true := decide_eq_true c23; clear c23; obtain ⟨ji24, hji24⟩ : ∃ j_ : Int, (mn (wrap64 ((rd x6_2 x7_1) + (rd x6_2 (ji21)))) 1000000000000001) = j_ := ⟨_, rfl⟩; replace H : (impl_CountGoalOrders.l1 k2 l0 a1 (x6_2.set (x7_1 : Int).toNat (ji24)) x7_1 l0 (l0.length : Int) (wrap64 (x26_2 + 1))) = some (r1, r2) := by first | (rw [hji24] at H; exact H) | (simp only [hji24] at H ⊢; exact H)
                  have hji24_ : (if 1000000000000001 < (wrap64 ((rd x6_2 x7_1) + (rd x6_2 (ji21)))) then 1000000000000001 else (wrap64 ((rd x6_2 x7_1) + (rd x6_2 (ji21))))) = ji24 := hji24; obtain ⟨y282, hy282⟩ : ∃ y_ : List Int, y_ = (x6_2.set (x7_1 : Int).toNat (ji24)) := ⟨_, rfl⟩; replace H : (impl_CountGoalOrders.l1 k2 l0 a1 y282 x7_1 l0 (l0.length : Int) (wrap64 (x26_2 + 1))) = some (r1, r2) := by first | (rw [hy282]; with_reducible exact H) | (have H2_ := (Option.bind_some _ _).symm.trans H; rw [hy282]; with_reducible exact H2_) | (have H2_ := (Option.bind_some _ _).symm.trans H; with_reducible exact H2_) | with_reducible exact H | (rw [hy282]; exact H) | exact H
                  have Ny282 := a_ hy282; clear hy282; have H' := a_ H; clear H; have p279 : 0 ≤ (x26_2 : Int) := of_decide_eq_true t0_; have q279 : x26_2 < (l0.length : Int) := of_decide_eq_true t0_; obtain ⟨ad279, e279, hx279_0⟩ := Kd.at_int HR0.out x26_2 p279 q279
                  cases e279
                  replace hx279_0 := (HB.out.cell (World.block_lt_of_cell? w _ hx279_0)).trans hx279_0; replace p279 := eq_true p279; replace q279 := eq_true q279
                  try go_wp2
                  have n0_ := a_ (Kd.R_drew HO_6.out); have n1_ := a_ (below_drew1 HB.out); clear HO_6; clear HB; have HO_6 := n0_; have HB := n1_; clear n0_ n1_; have p280 : 0 ≤ (x7_1 : Int) := of_decide_eq_true t0_; have q280 : x7_1 < (x6_2.length : Int) := of_decide_eq_true t0_; obtain ⟨ad280, e280, hx280_0⟩ := Kd.at_int (Kd.R_reads' HO_6.out).2.2 x7_1 p280 q280; obtain rfl : (⟨go9, 0, none⟩ : Addr) = ad280 := (by injection e280)
                  (first | simp only [add_plain] at hx280_0 | simp only [add_at] at hx280_0 | simp only [Addr.add, Nat.zero_add] at hx280_0 | skip)
                  replace p280 := eq_true p280; replace q280 := eq_true q280; have p281 : 0 ≤ ((ji21) : Int) := of_decide_eq_true t0_; have q281 : (ji21) < (x6_2.length : Int) := of_decide_eq_true t0_; obtain ⟨ad281, e281, hx281_0⟩ := Kd.at_int (Kd.R_reads' HO_6.out).2.2 (ji21) p281 q281; obtain rfl : (⟨go9, 0, none⟩ : Addr) = ad281 := (by injection e281)
                  (first | simp only [add_plain] at hx281_0 | simp only [add_at] at hx281_0 | simp only [Addr.add, Nat.zero_add] at hx281_0 | skip)
                  replace p281 := eq_true p281; replace q281 := eq_true q281; have p25 : 0 ≤ (x7_1 : Int) := of_decide_eq_true t0_; have q25 : (x7_1 : Int) < ((x6_2.length : Int) : Int) := of_decide_eq_true t0_; obtain ⟨hx25_0, hf25_0⟩ := Kd.R_celln 0 HO_6.out (x7_1 : Int) p25 q25; replace p25 := eq_true p25; replace q25 := eq_true q25; have HP27 := Kd.R_putn HO_6.out (x7_1 : Int) ji24; rw [← Ny282.out] at HP27; have HQ27 := a_ HP27; clear HP27
                  refine start_ (n := 16) (S := fun w' => w'.cell? ⟨go9, (x7_1).toNat, none⟩ = some (.int .i64 (rd x6_2 x7_1)) ∧ w'.cell? ⟨go9, ((ji21)).toNat, none⟩ = some (.int .i64 (rd x6_2 (ji21)))) (ds := [15]) #[false, false, false, false, false, false, false, false, false, false, false, false, false, false, false, false] t7_ rfl rfl ⟨hx280_0, hx281_0⟩ (fun hHeld => ?_); refine with_tabW impl_CountGoalOrders.tab12 impl_CountGoalOrders.bits12 (fun HT_ HW_ => ?_)
                  generalize wr.drew = w26 at HO_6 HB HQ27 hf25_0 hx25_0 hx280_0 hx281_0 hHeld ⊢
                  refine pure_ (i := 0) (N := some 33) (v := ?_) (a' := ?_) #[true, false, false, false, false, false, false, false, false, false, false, false, false, false, false, false] rfl rfl (any_of HT_.out t7_) (fun _ _ _ h => h) (Or.inl ⟨by rfl, ?_⟩) ?_ ?_
                  rotate_left
                  ·
                   intro w'
                   go_simp
                   with_reducible rfl
                  rotate_left
                  ·
                   simp only [Act.put, List.setIfInBounds_toArray, List.set_cons_zero, List.set_cons_succ, i64_w, i32_w]
                   rfl
                  refine pure_ (i := 1) (N := some 34) (v := ?_) (a' := ?_) #[true, true, false, false, false, false, false, false, false, false, false, false, false, false, false, false] rfl rfl (any_of HT_.out t7_) (fun _ _ _ h => h) (Or.inl ⟨by rfl, ?_⟩) ?_ ?_
                  rotate_left
                  ·
                   intro w'
                   go_simp
                   with_reducible rfl
                  rotate_left
                  ·
                   simp only [Act.put, List.setIfInBounds_toArray, List.set_cons_zero, List.set_cons_succ, i64_w, i32_w]
                   rfl
                  refine pure_ (i := 2) (N := some 35) (v := ?_) (a' := ?_) #[true, true, true, false, false, false, false, false, false, false, false, false, false, false, false, false] rfl rfl (any_of HT_.out t7_) (fun _ _ _ h => h) (Or.inl ⟨by rfl, ?_⟩) ?_ ?_
                  rotate_left
                  ·
                   intro w'
                   go_simp
                   with_reducible rfl
                  rotate_left
                  ·
                   simp only [Act.put, List.setIfInBounds_toArray, List.set_cons_zero, List.set_cons_succ, i64_w, i32_w]
                   rfl
                  refine pure_ (i := 3) (N := some 36) (v := ?_) (a' := ?_) #[true, true, true, true, false, false, false, false, false, false, false, false, false, false, false, false] rfl rfl (any_of HT_.out t7_) (fun _ _ _ h => h) (Or.inl ⟨by rfl, ?_⟩) ?_ ?_
                  rotate_left
                  ·
                   intro w'
                   go_simp
                   with_reducible rfl
                  rotate_left
                  ·
                   simp only [Act.put, List.setIfInBounds_toArray, List.set_cons_zero, List.set_cons_succ, i64_w, i32_w]
                   rfl
                  refine pure_ (i := 4) (N := some 37) (v := ?_) (a' := ?_) #[true, true, true, true, true, false, false, false, false, false, false, false, false, false, false, false] rfl rfl (any_of HT_.out t7_) (fun _ _ _ h => h) (Or.inl ⟨by rfl, ?_⟩) ?_ ?_
                  rotate_left
                  ·
                   intro w'
                   go_simp
                   with_reducible rfl
                  rotate_left
                  ·
                   simp only [Act.put, List.setIfInBounds_toArray, List.set_cons_zero, List.set_cons_succ, i64_w, i32_w]
                   rfl
                  refine pure_ (i := 6) (N := some 39) (v := ?_) (a' := ?_) #[true, true, true, true, true, false, true, false, false, false, false, false, false, false, false, false] rfl rfl (any_of HT_.out t7_) (fun _ _ _ h => h) (Or.inl ⟨by rfl, ?_⟩) ?_ ?_
                  rotate_left
                  ·
                   intro w'
                   go_simp
                   with_reducible rfl
                  rotate_left
                  ·
                   simp only [Act.put, List.setIfInBounds_toArray, List.set_cons_zero, List.set_cons_succ, i64_w, i32_w]
                   rfl
                  refine pure_ (i := 7) (N := some 40) (v := ?_) (a' := ?_) #[true, true, true, true, true, false, true, true, false, false, false, false, false, false, false, false] rfl rfl (any_of HT_.out t7_) (fun _ _ _ h => h) (Or.inl ⟨by rfl, ?_⟩) ?_ ?_
                  rotate_left
                  ·
                   intro w'
                   go_simp
                   with_reducible rfl
                  rotate_left
                  ·
                   simp only [Act.put, List.setIfInBounds_toArray, List.set_cons_zero, List.set_cons_succ, i64_w, i32_w]
                   rfl
                  refine pure_ (i := 8) (N := some 41) (v := ?_) (a' := ?_) #[true, true, true, true, true, false, true, true, true, false, false, false, false, false, false, false] rfl rfl (any_of HT_.out t7_) (fun _ _ _ h => h) (Or.inl ⟨by rfl, ?_⟩) ?_ ?_
                  rotate_left
                  ·
                   intro w'
                   go_simp
                   with_reducible rfl
                  rotate_left
                  ·
                   simp only [Act.put, List.setIfInBounds_toArray, List.set_cons_zero, List.set_cons_succ, i64_w, i32_w]
                   rfl
                  refine pure_ (i := 9) (N := some 42) (v := ?_) (a' := ?_) #[true, true, true, true, true, false, true, true, true, true, false, false, false, false, false, false] rfl rfl (any_of HT_.out t7_) (fun _ _ _ h => h) (Or.inl ⟨by rfl, ?_⟩) ?_ ?_
                  rotate_left
                  ·
                   intro w'
                   go_simp
                   with_reducible rfl
                  rotate_left
                  ·
                   simp only [Act.put, List.setIfInBounds_toArray, List.set_cons_zero, List.set_cons_succ, i64_w, i32_w]
                   rfl
                  refine pure_ (i := 10) (N := some 43) (v := ?_) (a' := ?_) #[true, true, true, true, true, false, true, true, true, true, true, false, false, false, false, false] rfl rfl (any_of HT_.out t7_) (fun _ _ _ h => h) (Or.inl ⟨by rfl, ?_⟩) ?_ ?_
                  rotate_left
                  ·
                   intro w'
                   go_simp
                   with_reducible rfl
                  rotate_left
                  ·
                   simp only [Act.put, List.setIfInBounds_toArray, List.set_cons_zero, List.set_cons_succ, i64_w, i32_w]
                   rfl
                  refine take_ (i := 5) (N := some 38) (v := ?_) (a' := ?_) #[true, true, true, true, true, true, true, true, true, true, true, false, false, false, false, false] rfl rfl (take_ofW HT_.out HW_.out t7_) (fun _ _ _ h => h) (Or.inl ⟨by rfl, ?_⟩) hHeld ?_ ?_
                  rotate_left
                  ·
                   rintro w' ⟨s0, s1⟩
                   go_simp
                   with_reducible rfl
                  rotate_left
                  ·
                   simp only [Act.put, List.setIfInBounds_toArray, List.set_cons_zero, List.set_cons_succ, i64_w, i32_w]
                   rfl
                  refine take_ (i := 11) (N := some 44) (v := ?_) (a' := ?_) #[true, true, true, true, true, true, true, true, true, true, true, true, false, false, false, false] rfl rfl (take_ofW HT_.out HW_.out t7_) (fun _ _ _ h => h) (Or.inl ⟨by rfl, ?_⟩) hHeld ?_ ?_
                  rotate_left
                  ·
                   rintro w' ⟨s0, s1⟩
                   go_simp
                   with_reducible rfl
                  rotate_left
                  ·
                   simp only [Act.put, List.setIfInBounds_toArray, List.set_cons_zero, List.set_cons_succ, i64_w, i32_w]
                   rfl
                  refine pure_ (i := 12) (N := some 45) (v := ?_) (a' := ?_) #[true, true, true, true, true, true, true, true, true, true, true, true, true, false, false, false] rfl rfl (any_of HT_.out t7_) (fun _ _ _ h => h) (Or.inl ⟨by rfl, ?_⟩) ?_ ?_
                  rotate_left
                  ·
                   intro w'
                   go_simp
                   with_reducible rfl
                  rotate_left
                  ·
                   simp only [Act.put, List.setIfInBounds_toArray, List.set_cons_zero, List.set_cons_succ, i64_w, i32_w]
                   rfl
                  refine pure_ (i := 13) (N := some 46) (v := ?_) (a' := ?_) #[true, true, true, true, true, true, true, true, true, true, true, true, true, true, false, false] rfl rfl (any_of HT_.out t7_) (fun _ _ _ h => h) (Or.inl ⟨by rfl, ?_⟩) ?_ ?_
                  rotate_left
                  ·
                   intro w'
                   go_simp
                   with_reducible rfl
                  rotate_left
                  ·
                   simp only [Act.put, List.setIfInBounds_toArray, List.set_cons_zero, List.set_cons_succ, i64_w, i32_w]
                   rfl
                  refine pure_ (i := 14) (N := some 47) (v := ?_) (a' := ?_) #[true, true, true, true, true, true, true, true, true, true, true, true, true, true, true, false] rfl rfl (any_of HT_.out t7_) (fun _ _ _ h => h) (Or.inl ⟨by rfl, ?_⟩) ?_ ?_
                  rotate_left
                  ·
                   intro w'
                   go_simp
                   with_reducible rfl
                  rotate_left
                  ·
                   simp only [Act.put, List.setIfInBounds_toArray, List.set_cons_zero, List.set_cons_succ, i64_w, i32_w]
                   rfl
                  refine last_ (i := 15) (N := none) #[true, true, true, true, true, true, true, true, true, true, true, true, true, true, true, true] rfl rfl (one_of HT_.out t7_) t19_ (fun K hK => ?_)
                  refine skip_ (w1 := ?_) (by rfl) rfl ?_ ?_
                  rotate_left
                  ·
                   go_simp
                   rfl
                  refine hK.out _ _ ?_
                  clear hK K
                  refine done_ (done_of HT_.out t7_) ?_
                  try go_wp2
                  (try simp only [← hl6_2])
                  go_roundg k2
                  case measure => have := HK1.out; have := HK2.out; omega
                  case rel => exact ⟨(y282), (wrap64 (x26_2 + 1)), t2_, H', ⟨t9_⟩, ⟨t24_⟩, ⟨t14_⟩⟩
                 ·
                  rw [if_neg c23] at H
                  exact absurd H t8_
                ·
                 rw [if_neg c22] at H
                 exact absurd H t8_
               ·
                rw [if_neg c20] at H
                exact absurd H t8_
              ·
               rw [if_neg c19] at H
               exact absurd H t8_
             ·
              rw [if_neg c18] at H; have c18b0 : decide ((rd l0 x26_2) ≤ x7_1) = false := decide_eq_false c18; clear c18; have H' := a_ H; clear H; have p279 : 0 ≤ (x26_2 : Int) := of_decide_eq_true t0_; have q279 : x26_2 < (l0.length : Int) := of_decide_eq_true t0_; obtain ⟨ad279, e279, hx279_0⟩ := Kd.at_int HR0.out x26_2 p279 q279
              cases e279
              replace hx279_0 := (HB.out.cell (World.block_lt_of_cell? w _ hx279_0)).trans hx279_0; replace p279 := eq_true p279; replace q279 := eq_true q279
              go_wp2
              (try simp only [← hl6_2])
              go_roundg k2
              case measure => have := HK1.out; have := HK2.out; omega
              case rel => exact ⟨(x6_2), (wrap64 (x26_2 + 1)), t2_, H', ⟨t9_⟩, ⟨t12_⟩, ⟨L_ HB.out (Nat.le_refl _) (Nat.le_refl _) (Nat.le_refl _)⟩⟩
            ·
             rw [if_neg c17] at H
             exact absurd H t8_
           ·
            rw [if_neg c16] at H
            exact absurd H t8_
          ·
           rw [if_neg c15] at H; have c15b0 : decide (x26_2 < (l0.length : Int)) = false := decide_eq_false c15; clear c15; have H' := a_ H; clear H
           go_wp2
           (try simp only [← hl6_1, ← hl6_2])
           go_roundg k2
           case measure => have := HK1.out; have := HK2.out; omega
           case rel => exact ⟨(x6_2), (wrap64 (x7_1 + 1)), t2_, H', ⟨t9_⟩, ⟨t12_⟩, ⟨L_ HB.out (Nat.le_refl _) (Nat.le_refl _) (Nat.le_refl _)⟩⟩
       ·
        rw [if_neg c14] at H; have c14b0 : decide (x7_1 ≤ a1) = false := decide_eq_false c14; clear c14
        by_cases c28 : 0 ≤ a1
        ·
         rw [if_pos c28] at H; have c28b0 : decide (0 ≤ a1) = true := decide_eq_true c28; clear c28
         by_cases c29 : a1 < (x6_1.length : Int)
         ·
          rw [if_pos c29] at H; have c29b0 : decide (a1 < (x6_1.length : Int)) = true := decide_eq_true c29; clear c29; replace H := Option.bind_eq_some_iff.mp H; obtain ⟨⟨t277, t278⟩, A300, H⟩ := H; replace H : (some (t277, t278)) = some (r1, r2) := H; have A30 := a_ A300; clear A300; simp only [Option.some.injEq, Prod.mk.injEq] at H; obtain ⟨rfl, rfl⟩ := H; have p276 : 0 ≤ (a1 : Int) := of_decide_eq_true t0_; have q276 : a1 < (x6_1.length : Int) := of_decide_eq_true t0_; obtain ⟨ad276, e276, hx276_0⟩ := Kd.at_int (Kd.R_reads' HO_6.out).2.2 a1 p276 q276; obtain rfl : (⟨go9, 0, none⟩ : Addr) = ad276 := (by injection e276)
          (first | simp only [add_plain] at hx276_0 | simp only [add_at] at hx276_0 | simp only [Addr.add, Nat.zero_add] at hx276_0 | skip)
          replace p276 := eq_true p276; replace q276 := eq_true q276
          go_wp2_with (first | ((with_reducible refine gate_callee (f := 40) rfl ?_); refine goesL_ (some 53) rfl rfl Tryz.func40 t7_ rfl #[.int .i64 (rd x6_1 a1), .int .i64 1000000000000000] rfl (by (try simp only [m1_, m2_, m3_]); first | done | rfl) ?_; (with_reducible refine (impl_few.calls (rd x6_1 a1) 1000000000000000 t277 t278 _ A30.out).mono ?_); rintro e w' ⟨rfl, ⟨nd, rfl⟩⟩; refine ⟨_, rfl, ?_⟩))
          go_ret2
          exact ⟨by first | rfl | (simp [errW_none, errW_some] <;> rfl) | (simp only [← hji5]; first | rfl | (simp [errW_none, errW_some] <;> rfl)) | (simp [*, errW_none, errW_some] <;> rfl), by repeat (first | (with_reducible first | exact HB.out | apply below_alloc | apply pw_below_drewN | apply below_drew1) | exact HB.out)⟩
         ·
          rw [if_neg c29] at H
          exact absurd H t8_
        ·
         rw [if_neg c28] at H
         exact absurd H t8_
    ·
     rw [if_neg c8] at H
     exact absurd H t8_
   ·
    rw [if_neg c7] at H
    exact absurd H t8_
  ·
   rw [if_neg c6] at H
   exact absurd H t8_
 ·
  replace c4 := Bool.eq_false_iff.mpr c4; subst c4; have H1 : (some (0, false)) = some (r1, r2) := by rw [if_neg (show ¬ (false = true) by decide)] at H; exact H
  clear H; have H := H1; clear H1; simp only [Option.some.injEq, Prod.mk.injEq] at H; obtain ⟨rfl, rfl⟩ := H
  go_enter Tryz.func14, Tryz.ntmps14
  go_wp2_with (first | ((with_reducible refine gate_callee (f := 38) rfl ?_); refine goesL_ (some 12) rfl rfl Tryz.func38 t7_ rfl #[.slice A0 l0.length c0, .int .i64 a1] rfl (by (try simp only [m1_, m2_, m3_]); first | done | rfl) ?_; (with_reducible refine (impl_isAsked.calls k _ _ l0 a1 false _ ?side1 ?side2 A3.out).mono ?_); (case side1 => repeat (first | exact HR0.out | (with_reducible refine Kd.C_alloc ?_ _) | (with_reducible refine Kd.C_drewN ?_ _) | (with_reducible refine Kd.C_drew ?_))); (case side2 => exact HC0.out); rintro e w' ⟨rfl, ⟨nd, rfl⟩⟩; refine ⟨_, rfl, ?_⟩))
  go_ret2
  exact ⟨by first | rfl | (simp [errW_none, errW_some] <;> rfl) | (simp [*, errW_none, errW_some] <;> rfl), by repeat (first | (with_reducible first | exact HB.out | apply below_alloc | apply pw_below_drewN | apply below_drew1) | exact HB.out)⟩
end Go.Proofs.YthcbaogbncakdaaGreatDoor.QFnGoalsReached
