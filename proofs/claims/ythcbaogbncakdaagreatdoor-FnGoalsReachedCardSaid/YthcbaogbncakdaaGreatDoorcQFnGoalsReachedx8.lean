import Derived.Test.YthcbaogbncakdaaGreatDoorcQFnGoalsReachedx0
import Derived.Test.YthcbaogbncakdaaGreatDoorcQFnGoalsReachedx2
import Derived.Test.YthcbaogbncakdaaGreatDoorcQFnGoalsReachedx3
import Derived.Test.YthcbaogbncakdaaGreatDoorcGQ
namespace Go.Proofs.YthcbaogbncakdaaGreatDoor.QFnGoalsReached
open Go.RowKit Go.Proofs.YthcbaogbncakdaaGreatDoorW.PrintWords Go.Proofs.YthcbaogbncakdaaGreatDoorW.PrintLast Go.Proofs.YthcbaogbncakdaaGreatDoorW.PrintMore Go.Proofs.YthcbaogbncakdaaGreatDoor.Sh
attribute [local go_sem] max2_int min2_int max_two min_two max_three min_three max_four min_four
set_option linter.unusedVariables false
set_option linter.unusedSimpArgs false
mutual
def spec_CountGoalOrders.l0 : Nat → List Int → Int → List Int → Int → Option (Int × Bool)
 | 0, _, _, _, _ => none
 | k + 1, x0, x1, x6, x7 => if x7 ≤ x1 then (spec_CountGoalOrders.l1 k x0 x1 x6 x7 x0 (x0.length : Int) 0) else (if 0 ≤ x1 then (if x1 < (x6.length : Int) then (if (rd x6 x1) > 1000000000000000 then (some (0, false)) else (some (rd x6 x1, true))) else (none)) else (none))
def spec_CountGoalOrders.l1 : Nat → List Int → Int → List Int → Int → List Int → Int → Int → Option (Int × Bool)
 | 0, _, _, _, _, _, _, _ => none
 | k + 1, x0, x1, x6, x7, x24, x25, x26 => if x26 < x25 then (if 0 ≤ x26 then (if x26 < (x24.length : Int) then (if (rd x24 x26) ≤ x7 then (if 0 ≤ x7 then (if x7 < (x6.length : Int) then (if 0 ≤ (wrap64 (x7 - (rd x24 x26))) then (if (wrap64 (x7 - (rd x24 x26))) < (x6.length : Int) then ((spec_l1Least.f (wrap64 ((rd x6 x7) + (rd x6 (wrap64 (x7 - (rd x24 x26)))))) 1000000000000001).bind fun t293 => (spec_CountGoalOrders.l1 k x0 x1 (x6.set (x7 : Int).toNat t293) x7 x24 x25 (wrap64 (x26 + 1)))) else (none)) else (none)) else (none)) else (none)) else (spec_CountGoalOrders.l1 k x0 x1 x6 x7 x24 x25 (wrap64 (x26 + 1)))) else (none)) else (none)) else (spec_CountGoalOrders.l0 k x0 x1 x6 (wrap64 (x7 + 1)))
end
def spec_CountGoalOrders.f (k : Nat) (l0 : List Int) (a1 : Int) : Option (Int × Bool) := (spec_goAsked.f k l0 a1).bind fun t283 => (if t283 = true then (if 0 ≤ (wrap64 (a1 + 1)) then (if (wrap64 (a1 + 1) : Int).toNat ≤ 35184372088832 then ((some (List.replicate (wrap64 (a1 + 1) : Int).toNat 0 : List Int)).bind fun y284 => (if 0 < (y284.length : Int) then (spec_CountGoalOrders.l0 k l0 a1 (y284.set (0 : Int).toNat 1) 1) else (none))) else (none)) else (none)) else (some (0, false)))
def spec_CountGoalOrders.T12 : Bool × List (List Nat × List Nat) := (true, [([], []), ([], []), ([], []), ([], []), ([2, 3], [2, 3]), ([4], [4]), ([], []), ([], []), ([], []), ([7, 8], [7, 8]), ([6, 9], [6, 9]), ([10], [10]), ([5, 11], [5, 11]), ([12], [12]), ([0, 1, 0, 1, 2, 3, 4, 5, 6, 7, 8, 9, 10, 11, 12, 13], [0, 1]), ([14, 13, 13, 0, 1, 2, 3, 4, 5, 6, 7, 8, 9, 10, 11, 12, 13], [13, 14])])
def spec_CountGoalOrders.B12 : List Nat := [0, 0, 0, 0, 12, 28, 0, 0, 0, 384, 960, 1984, 4092, 8188, 16383, 32767]
theorem spec_CountGoalOrders.tab12 : rtab .any (opsOf Tryz.f15 12) = spec_CountGoalOrders.T12 := by kernel_rfl
theorem spec_CountGoalOrders.bits12 : waitsOk spec_CountGoalOrders.T12.2 spec_CountGoalOrders.B12 = true := by kernel_rfl
set_option maxHeartbeats 8000000 in
set_option maxRecDepth 100000 in
theorem spec_CountGoalOrders.calls (k : Nat) (A0 : Option Addr) (c0 : Nat) (l0 : List Int) (a1 : Int) (r1 : Int) (r2 : Bool) (w : World) (hr0 : Kd.C (Kd.int .i64) w A0 l0.length l0) (hc0 : l0.length ≤ c0) (h : spec_CountGoalOrders.f k l0 a1 = some (r1, r2)) :
  Calls Tryz.prog 15 #[.slice A0 l0.length c0, .int .i64 a1] w fun e w' => e = .returned (.tuple #[.int .i64 r1, .bool r2]) ∧ Below w.heap.size w w' := by
 have HR0 := a_ hr0; have HC0 := a_ hc0; clear hr0 hc0; have HB := a_ (Below.refl w.heap.size w); have H : ((spec_goAsked.f k l0 a1).bind fun t283 => (if t283 = true then (if 0 ≤ (wrap64 (a1 + 1)) then (if (wrap64 (a1 + 1) : Int).toNat ≤ 35184372088832 then ((some (List.replicate (wrap64 (a1 + 1) : Int).toNat 0 : List Int)).bind fun y284 => (if 0 < (y284.length : Int) then (spec_CountGoalOrders.l0 k l0 a1 (y284.set (0 : Int).toNat 1) 1) else (none))) else (none)) else (none)) else (some (0, false)))) = some (r1, r2) := h; clear h; replace H := Option.bind_eq_some_iff.mp H; obtain ⟨t283, A30, H⟩ := H; replace H : (if t283 = true then (if 0 ≤ (wrap64 (a1 + 1)) then (if (wrap64 (a1 + 1) : Int).toNat ≤ 35184372088832 then ((some (List.replicate (wrap64 (a1 + 1) : Int).toNat 0 : List Int)).bind fun y284 => (if 0 < (y284.length : Int) then (spec_CountGoalOrders.l0 k l0 a1 (y284.set (0 : Int).toNat 1) 1) else (none))) else (none)) else (none)) else (some (0, false))) = some (r1, r2) := H; have A3 := a_ A30; clear A30
 by_cases c4 : t283 = true
 ·
  subst c4; have H1 : (if 0 ≤ (wrap64 (a1 + 1)) then (if (wrap64 (a1 + 1) : Int).toNat ≤ 35184372088832 then ((some (List.replicate (wrap64 (a1 + 1) : Int).toNat 0 : List Int)).bind fun y284 => (if 0 < (y284.length : Int) then (spec_CountGoalOrders.l0 k l0 a1 (y284.set (0 : Int).toNat 1) 1) else (none))) else (none)) else (none)) = some (r1, r2) := by rw [if_pos rfl] at H; exact H
  clear H; have H := H1; clear H1; obtain ⟨ji5, hji5⟩ : ∃ j_ : Int, (wrap64 (a1 + 1)) = j_ := ⟨_, rfl⟩; replace H : (if 0 ≤ (ji5) then (if (ji5 : Int).toNat ≤ 35184372088832 then ((some (List.replicate (ji5 : Int).toNat 0 : List Int)).bind fun y284 => (if 0 < (y284.length : Int) then (spec_CountGoalOrders.l0 k l0 a1 (y284.set (0 : Int).toNat 1) 1) else (none))) else (none)) else (none)) = some (r1, r2) := by first | (rw [hji5] at H; exact H) | (simp only [hji5] at H ⊢; exact H)
  (try rw [hji5] at A3)
  have hji5w : (IntKind.i64.wrap (a1 + 1)) = ji5 := (i64_w _).trans hji5
  by_cases c6 : 0 ≤ (ji5)
  ·
   rw [if_pos c6] at H; have c6b0 := eq_true c6; have c6b1 : decide (0 ≤ (ji5)) = true := decide_eq_true c6; clear c6
   by_cases c7 : (ji5 : Int).toNat ≤ 35184372088832
   ·
    rw [if_pos c7] at H; have c7b0 := eq_true c7; have c7b1 : decide ((ji5 : Int).toNat ≤ 35184372088832) = true := decide_eq_true c7; clear c7; obtain ⟨y284, hy284⟩ : ∃ y_ : List Int, y_ = (List.replicate (ji5 : Int).toNat 0) := ⟨_, rfl⟩; replace H : (if 0 < (y284.length : Int) then (spec_CountGoalOrders.l0 k l0 a1 (y284.set (0 : Int).toNat 1) 1) else (none)) = some (r1, r2) := by first | (rw [hy284]; with_reducible exact H) | (have H2_ := (Option.bind_some _ _).symm.trans H; rw [hy284]; with_reducible exact H2_) | (have H2_ := (Option.bind_some _ _).symm.trans H; with_reducible exact H2_) | with_reducible exact H | (rw [hy284]; exact H) | exact H
    have Ny284 := a_ hy284; clear hy284
    by_cases c8 : 0 < (y284.length : Int)
    ·
     rw [if_pos c8] at H; have c8b0 : decide (0 < (y284.length : Int)) = true := decide_eq_true c8; have c8b1 : decide (0 < y284.length) = true := decide_eq_true t18_; clear c8; obtain ⟨y287, hy287⟩ : ∃ y_ : List Int, y_ = (y284.set (0 : Int).toNat 1) := ⟨_, rfl⟩; replace H : (spec_CountGoalOrders.l0 k l0 a1 y287 1) = some (r1, r2) := by first | (rw [hy287]; with_reducible exact H) | (have H2_ := (Option.bind_some _ _).symm.trans H; rw [hy287]; with_reducible exact H2_) | (have H2_ := (Option.bind_some _ _).symm.trans H; with_reducible exact H2_) | with_reducible exact H | (rw [hy287]; exact H) | exact H
     have Ny287 := a_ hy287; clear hy287; have H' := a_ H; clear H
     go_enter Tryz.func15, Tryz.ntmps15
     go_wp2_with (first | ((with_reducible refine gate_callee (f := 35) rfl ?_); refine goesL_ (some 12) rfl rfl Tryz.func35 t7_ rfl #[.slice A0 l0.length c0, .int .i64 a1] rfl (by (try simp only [m1_, m2_, m3_]); first | done | rfl) ?_; (with_reducible refine (spec_goAsked.calls k _ _ l0 a1 true _ ?side1 ?side2 A3.out).mono ?_); (case side1 => repeat (first | exact HR0.out | (with_reducible refine Kd.C_alloc ?_ _) | (with_reducible refine Kd.C_drewN ?_ _) | (with_reducible refine Kd.C_drew ?_))); (case side2 => exact HC0.out); rintro e w' ⟨rfl, ⟨nd, rfl⟩⟩; refine ⟨_, rfl, ?_⟩) | ((with_reducible refine gate_dst (N := 16) rfl ?_); refine Kd.R_make (Kd.int .i64) _ 3 rfl (N := 16) rfl 24 _ _ rfl ji5 rfl rfl Tryz.underlying24 (.int .i64 0) 8 info3 rfl t19_ t18_ 0 (ok := fun _ => True) (okp := fun _ => True) rfl (fun _ hk => hk) trivial (of_decide_eq_true t0_) (Nat.le_trans (Nat.mul_le_mul_right _ (of_decide_eq_true t0_ : ji5.toNat ≤ 35184372088832)) t18_) (Below.refl _ _) (Nat.le_refl _) ?_; intro v285 w10 ho11 hb hg_ hnew_; clear hg_ hnew_; (first | rw [← Ny284.out] at ho11 | (simp only [Int.reduceToNat] at ho11; rw [← Ny284.out] at ho11)); have n0_ := a_ (Kd.R_lower ho11 (below_size (L_ HB.out (Nat.le_refl _) (Nat.le_refl _) (Nat.le_refl _)))); have n1_ := a_ (below_step (L_ HB.out (Nat.le_refl _) (Nat.le_refl _) (Nat.le_refl _)) hb); clear HB; have HO286 := n0_; have HB := n1_; clear n0_ n1_; clear hb ho11; have p9 : 0 ≤ (0 : Int) := t18_; have q9 : (0 : Int) < ((y284.length : Int) : Int) := of_decide_eq_true t0_; have qi9 : (0 < y284.length) = True := eq_true t18_; obtain ⟨go9, co9, eo9, gb9, gl9, cl9, HG9⟩ := Kd.R_form HO286.out t18_; (first | cases eo9 | (injection eo9 with ea_ en_ ec_; (first | subst ea_ | (injection ea_ with ea_; subst ea_)); subst ec_; clear en_)); have GB9 := a_ gb9; have GG9 := a_ HG9; clear gb9 gl9 HG9; obtain ⟨hx9_0, hf9_0⟩ := Kd.R_celln 0 HO286.out (0 : Int) p9 q9; (try rw [show ((0 : Int)).toNat = 0 from rfl] at hx9_0); (try simp only [Nat.reduceMul, Nat.zero_mul, Nat.zero_add, Nat.reduceAdd] at hx9_0); (try rw [show ((0 : Int)).toNat = 0 from rfl] at hf9_0); (try simp only [Nat.reduceMul, Nat.zero_mul, Nat.zero_add, Nat.reduceAdd] at hf9_0); replace p9 := eq_true p9; replace q9 := eq_true q9; obtain ⟨hy12_, hz12_⟩ := Kd.R_celln 0 HO286.out (0 : Int) t18_ (of_decide_eq_true t0_); (try simp only [Int.reduceToNat, Int.toNat_zero, Int.toNat_ofNat, Nat.reduceMul, Nat.zero_mul, Nat.zero_add] at hy12_ hz12_); (try rw [show ((0 : Int)).toNat = 0 from rfl] at hy12_); (try rw [show ((0 : Int)).toNat = 0 from rfl] at hz12_); have HP12 := Kd.R_putg HO286.out (0 : Int) 1) | ((with_reducible refine gate_store (t := 3) (p := 18) rfl ?_); refine store_event (t := 3) (p := 18) (v := ?vo_w13) (w1 := (w10.setCell ⟨go9, (0 : Int).toNat, none⟩ (.int .i64 1))) ?hg ?ho ?hn ?hr ?_; (case ho => rfl); (case hg => rfl); (case hn => rfl); (case hr => first | (go_simp; done) | (go_simp; rfl)); intro w13 hw; have hg : w10.grownBy w13 (some go9) := t26_; have hp_ : Kd.R (Kd.int .i64) 3 w13 w.heap.size (fun _ => True) (.slice (some ⟨go9, 0, none⟩) y284.length co9) y287 := (by rw [hw, Ny287.out]; exact HP12.1); clear HP12; have n0_ := a_ (hp_); have n1_ := a_ ((by rw [hw]; exact below_set (HB.out) GB9.out : Below w.heap.size w w13)); clear HO286; clear HB; have HO286 := n0_; have HB := n1_; clear n0_ n1_; clear hg hw hp_))
     go_loopg [7] k (fun kq v7 w' => ∃ (x6_1 : List Int) (x7_1 : Int), v7 = .int .i64 x7_1 ∧ Aside0 (spec_CountGoalOrders.l0 kq l0 a1 x6_1 x7_1 = some (r1, r2)) ∧ Aside0 (kq ≤ k) ∧ Aside0 (Kd.R (Kd.int .i64) 3 w' w.heap.size (fun _ => True) (.slice (some ⟨go9, 0, none⟩) y284.length co9) x6_1) ∧ Aside0 (Below w.heap.size w w'))
     case atStart => exact ⟨(y287), (1), t2_, H', ⟨Nat.le_refl _⟩, ⟨R_ HO286.out⟩, ⟨L_ HB.out (Nat.le_refl _) (Nat.le_refl _) (Nat.le_refl _)⟩⟩
     case round =>
      clear H'; obtain ⟨x6_1, x7_1, rfl, HA, HK1, HO_6, HB⟩ := hrel; have hl6_1 := (Kd.R_reads' HO_6.out).1; rw [hl6_1] at HO_6
      (try simp only [hl6_1])
      cases gk with
      | zero => exact absurd HA.out (by simp [spec_CountGoalOrders.l0])
      | succ k1 =>
       have H := HA.out; clear HA; simp only [spec_CountGoalOrders.l0] at H
       by_cases c14 : x7_1 ≤ a1
       ·
        rw [if_pos c14] at H; have c14b0 : decide (x7_1 ≤ a1) = true := decide_eq_true c14; clear c14; have H' := a_ H; clear H
        go_wp2
        go_loopg [26] k1 (fun kq v26 w' => ∃ (x6_2 : List Int) (x26_2 : Int), v26 = .int .i64 x26_2 ∧ Aside0 (spec_CountGoalOrders.l1 kq l0 a1 x6_2 x7_1 l0 (l0.length : Int) x26_2 = some (r1, r2)) ∧ Aside0 (kq ≤ k1) ∧ Aside0 (Kd.R (Kd.int .i64) 3 w' w.heap.size (fun _ => True) (.slice (some ⟨go9, 0, none⟩) x6_1.length co9) x6_2) ∧ Aside0 (Below w.heap.size w w'))
        case atStart => exact ⟨(x6_1), (0), t2_, H', ⟨Nat.le_refl _⟩, ⟨t20_⟩, ⟨L_ HB.out (Nat.le_refl _) (Nat.le_refl _) (Nat.le_refl _)⟩⟩
        case round =>
         clear H'; obtain ⟨x6_2, x26_2, rfl, HA, HK2, HO_6, HB⟩ := hrel; have hl6_2 := (Kd.R_reads' HO_6.out).1; rw [hl6_2] at HO_6
         (try simp only [hl6_2])
         cases gk with
         | zero => exact absurd HA.out (by simp [spec_CountGoalOrders.l1])
         | succ k2 =>
          have H := HA.out; clear HA; simp only [spec_CountGoalOrders.l1] at H
          by_cases c15 : x26_2 < (l0.length : Int)
          ·
           rw [if_pos c15] at H; have c15b0 : decide (x26_2 < (l0.length : Int)) = true := decide_eq_true c15; clear c15
           by_cases c16 : 0 ≤ x26_2
           ·
            rw [if_pos c16] at H; have c16b0 : decide (0 ≤ x26_2) = true := decide_eq_true c16; clear c16
            by_cases c17 : x26_2 < (l0.length : Int)
            ·
             rw [if_pos c17] at H; have c17b0 : decide (x26_2 < (l0.length : Int)) = true := decide_eq_true c17; clear c17
             by_cases c18 : (rd l0 x26_2) ≤ x7_1
             ·
              rw [if_pos c18] at H; have c18b0 : decide ((rd l0 x26_2) ≤ x7_1) = true := decide_eq_true c18; clear c18
              by_cases c19 : 0 ≤ x7_1
              ·
               rw [if_pos c19] at H; have c19b0 : decide (0 ≤ x7_1) = true := decide_eq_true c19; clear c19
               by_cases c20 : x7_1 < (x6_2.length : Int)
               ·
                rw [if_pos c20] at H; have c20b0 : decide (x7_1 < (x6_2.length : Int)) = true := decide_eq_true c20; clear c20; obtain ⟨ji21, hji21⟩ : ∃ j_ : Int, (wrap64 (x7_1 - (rd l0 x26_2))) = j_ := ⟨_, rfl⟩; replace H : (if 0 ≤ (ji21) then (if (ji21) < (x6_2.length : Int) then ((spec_l1Least.f (wrap64 ((rd x6_2 x7_1) + (rd x6_2 (ji21)))) 1000000000000001).bind fun t293 => (spec_CountGoalOrders.l1 k2 l0 a1 (x6_2.set (x7_1 : Int).toNat t293) x7_1 l0 (l0.length : Int) (wrap64 (x26_2 + 1)))) else (none)) else (none)) = some (r1, r2) := by first | (rw [hji21] at H; exact H) | (simp only [hji21] at H ⊢; exact H)
                have hji21w : (IntKind.i64.wrap (x7_1 - (rd l0 x26_2))) = ji21 := (i64_w _).trans hji21
                by_cases c22 : 0 ≤ (ji21)
                ·
                 rw [if_pos c22] at H; have c22b0 : decide (0 ≤ (ji21)) = true := decide_eq_true c22; clear c22
                 by_cases c23 : (ji21) < (x6_2.length : Int)
                 ·
                  rw [if_pos c23] at H; have c23b0 : decide ((ji21) < (x6_2.length : Int)) = true := decide_eq_true c23; clear c23; replace H := Option.bind_eq_some_iff.mp H; obtain ⟨t293, A240, H⟩ := H; replace H : (spec_CountGoalOrders.l1 k2 l0 a1 (x6_2.set (x7_1 : Int).toNat t293) x7_1 l0 (l0.length : Int) (wrap64 (x26_2 + 1))) = some (r1, r2) := H; have A24 := a_ A240; clear A240; obtain ⟨y294, hy294⟩ : ∃ y_ : List Int, y_ = (x6_2.set (x7_1 : Int).toNat t293) := ⟨_, rfl⟩; replace H : (spec_CountGoalOrders.l1 k2 l0 a1 y294 x7_1 l0 (l0.length : Int) (wrap64 (x26_2 + 1))) = some (r1, r2) := by first | (rw [hy294]; with_reducible exact H) | (have H2_ := (Option.bind_some _ _).symm.trans H; rw [hy294]; with_reducible exact H2_) | (have H2_ := (Option.bind_some _ _).symm.trans H; with_reducible exact H2_) | with_reducible exact H | (rw [hy294]; exact H) | exact H
                  have Ny294 := a_ hy294; clear hy294; have H' := a_ H; clear H; have p290 : 0 ≤ (x26_2 : Int) := of_decide_eq_true t0_; have q290 : x26_2 < (l0.length : Int) := of_decide_eq_true t0_; obtain ⟨ad290, e290, hx290_0⟩ := Kd.at_int HR0.out x26_2 p290 q290
                  cases e290
                  replace hx290_0 := (HB.out.cell (World.block_lt_of_cell? w _ hx290_0)).trans hx290_0; replace p290 := eq_true p290; replace q290 := eq_true q290
                  try go_wp2
                  have n0_ := a_ (Kd.R_drew HO_6.out); have n1_ := a_ (below_drew1 HB.out); clear HO_6; clear HB; have HO_6 := n0_; have HB := n1_; clear n0_ n1_; have p291 : 0 ≤ (x7_1 : Int) := of_decide_eq_true t0_; have q291 : x7_1 < (x6_2.length : Int) := of_decide_eq_true t0_; obtain ⟨ad291, e291, hx291_0⟩ := Kd.at_int (Kd.R_reads' HO_6.out).2.2 x7_1 p291 q291; obtain rfl : (⟨go9, 0, none⟩ : Addr) = ad291 := (by injection e291)
                  (first | simp only [add_plain] at hx291_0 | simp only [add_at] at hx291_0 | simp only [Addr.add, Nat.zero_add] at hx291_0 | skip)
                  replace p291 := eq_true p291; replace q291 := eq_true q291; have p292 : 0 ≤ ((ji21) : Int) := of_decide_eq_true t0_; have q292 : (ji21) < (x6_2.length : Int) := of_decide_eq_true t0_; obtain ⟨ad292, e292, hx292_0⟩ := Kd.at_int (Kd.R_reads' HO_6.out).2.2 (ji21) p292 q292; obtain rfl : (⟨go9, 0, none⟩ : Addr) = ad292 := (by injection e292)
                  (first | simp only [add_plain] at hx292_0 | simp only [add_at] at hx292_0 | simp only [Addr.add, Nat.zero_add] at hx292_0 | skip)
                  replace p292 := eq_true p292; replace q292 := eq_true q292
                  refine start_ (n := 16) (S := fun w' => w'.cell? ⟨go9, (x7_1).toNat, none⟩ = some (.int .i64 (rd x6_2 x7_1)) ∧ w'.cell? ⟨go9, ((ji21)).toNat, none⟩ = some (.int .i64 (rd x6_2 (ji21)))) (ds := [15]) #[false, false, false, false, false, false, false, false, false, false, false, false, false, false, false, false] t7_ rfl rfl ⟨hx291_0, hx292_0⟩ (fun hHeld => ?_); refine with_tabW spec_CountGoalOrders.tab12 spec_CountGoalOrders.bits12 (fun HT_ HW_ => ?_)
                  generalize wr.drew = w26 at HO_6 HB hx291_0 hx292_0 hHeld ⊢
                  refine pure_ (i := 0) (N := some 33) (v := ?_) (a' := ?_) #[true, false, false, false, false, false, false, false, false, false, false, false, false, false, false, false] rfl rfl (any_of HT_.out t7_) (fun _ _ _ h => h) (Or.inl ⟨by rfl, ?_⟩) ?_ ?_
                  rotate_left
                  ·
                   intro w'
                   go_simp
                   with_reducible rfl
                  rotate_left
                  ·
                   simp only [Act.put, List.setIfInBounds_toArray, List.set_cons_zero, List.set_cons_succ, i64_w, i32_w]
                   rfl
                  refine pure_ (i := 1) (N := some 34) (v := ?_) (a' := ?_) #[true, true, false, false, false, false, false, false, false, false, false, false, false, false, false, false] rfl rfl (any_of HT_.out t7_) (fun _ _ _ h => h) (Or.inl ⟨by rfl, ?_⟩) ?_ ?_
                  rotate_left
                  ·
                   intro w'
                   go_simp
                   with_reducible rfl
                  rotate_left
                  ·
                   simp only [Act.put, List.setIfInBounds_toArray, List.set_cons_zero, List.set_cons_succ, i64_w, i32_w]
                   rfl
                  refine pure_ (i := 2) (N := some 35) (v := ?_) (a' := ?_) #[true, true, true, false, false, false, false, false, false, false, false, false, false, false, false, false] rfl rfl (any_of HT_.out t7_) (fun _ _ _ h => h) (Or.inl ⟨by rfl, ?_⟩) ?_ ?_
                  rotate_left
                  ·
                   intro w'
                   go_simp
                   with_reducible rfl
                  rotate_left
                  ·
                   simp only [Act.put, List.setIfInBounds_toArray, List.set_cons_zero, List.set_cons_succ, i64_w, i32_w]
                   rfl
                  refine pure_ (i := 3) (N := some 36) (v := ?_) (a' := ?_) #[true, true, true, true, false, false, false, false, false, false, false, false, false, false, false, false] rfl rfl (any_of HT_.out t7_) (fun _ _ _ h => h) (Or.inl ⟨by rfl, ?_⟩) ?_ ?_
                  rotate_left
                  ·
                   intro w'
                   go_simp
                   with_reducible rfl
                  rotate_left
                  ·
                   simp only [Act.put, List.setIfInBounds_toArray, List.set_cons_zero, List.set_cons_succ, i64_w, i32_w]
                   rfl
                  refine pure_ (i := 4) (N := some 37) (v := ?_) (a' := ?_) #[true, true, true, true, true, false, false, false, false, false, false, false, false, false, false, false] rfl rfl (any_of HT_.out t7_) (fun _ _ _ h => h) (Or.inl ⟨by rfl, ?_⟩) ?_ ?_
                  rotate_left
                  ·
                   intro w'
                   go_simp
                   with_reducible rfl
                  rotate_left
                  ·
                   simp only [Act.put, List.setIfInBounds_toArray, List.set_cons_zero, List.set_cons_succ, i64_w, i32_w]
                   rfl
                  refine pure_ (i := 6) (N := some 39) (v := ?_) (a' := ?_) #[true, true, true, true, true, false, true, false, false, false, false, false, false, false, false, false] rfl rfl (any_of HT_.out t7_) (fun _ _ _ h => h) (Or.inl ⟨by rfl, ?_⟩) ?_ ?_
                  rotate_left
                  ·
                   intro w'
                   go_simp
                   with_reducible rfl
                  rotate_left
                  ·
                   simp only [Act.put, List.setIfInBounds_toArray, List.set_cons_zero, List.set_cons_succ, i64_w, i32_w]
                   rfl
                  refine pure_ (i := 7) (N := some 40) (v := ?_) (a' := ?_) #[true, true, true, true, true, false, true, true, false, false, false, false, false, false, false, false] rfl rfl (any_of HT_.out t7_) (fun _ _ _ h => h) (Or.inl ⟨by rfl, ?_⟩) ?_ ?_
                  rotate_left
                  ·
                   intro w'
                   go_simp
                   with_reducible rfl
                  rotate_left
                  ·
                   simp only [Act.put, List.setIfInBounds_toArray, List.set_cons_zero, List.set_cons_succ, i64_w, i32_w]
                   rfl
                  refine pure_ (i := 8) (N := some 41) (v := ?_) (a' := ?_) #[true, true, true, true, true, false, true, true, true, false, false, false, false, false, false, false] rfl rfl (any_of HT_.out t7_) (fun _ _ _ h => h) (Or.inl ⟨by rfl, ?_⟩) ?_ ?_
                  rotate_left
                  ·
                   intro w'
                   go_simp
                   with_reducible rfl
                  rotate_left
                  ·
                   simp only [Act.put, List.setIfInBounds_toArray, List.set_cons_zero, List.set_cons_succ, i64_w, i32_w]
                   rfl
                  refine pure_ (i := 9) (N := some 42) (v := ?_) (a' := ?_) #[true, true, true, true, true, false, true, true, true, true, false, false, false, false, false, false] rfl rfl (any_of HT_.out t7_) (fun _ _ _ h => h) (Or.inl ⟨by rfl, ?_⟩) ?_ ?_
                  rotate_left
                  ·
                   intro w'
                   go_simp
                   with_reducible rfl
                  rotate_left
                  ·
                   simp only [Act.put, List.setIfInBounds_toArray, List.set_cons_zero, List.set_cons_succ, i64_w, i32_w]
                   rfl
                  refine pure_ (i := 10) (N := some 43) (v := ?_) (a' := ?_) #[true, true, true, true, true, false, true, true, true, true, true, false, false, false, false, false] rfl rfl (any_of HT_.out t7_) (fun _ _ _ h => h) (Or.inl ⟨by rfl, ?_⟩) ?_ ?_
                  rotate_left
                  ·
                   intro w'
                   go_simp
                   with_reducible rfl
                  rotate_left
                  ·
                   simp only [Act.put, List.setIfInBounds_toArray, List.set_cons_zero, List.set_cons_succ, i64_w, i32_w]
                   rfl
                  refine take_ (i := 5) (N := some 38) (v := ?_) (a' := ?_) #[true, true, true, true, true, true, true, true, true, true, true, false, false, false, false, false] rfl rfl (take_ofW HT_.out HW_.out t7_) (fun _ _ _ h => h) (Or.inl ⟨by rfl, ?_⟩) hHeld ?_ ?_
                  rotate_left
                  ·
                   rintro w' ⟨s0, s1⟩
                   go_simp
                   with_reducible rfl
                  rotate_left
                  ·
                   simp only [Act.put, List.setIfInBounds_toArray, List.set_cons_zero, List.set_cons_succ, i64_w, i32_w]
                   rfl
                  refine take_ (i := 11) (N := some 44) (v := ?_) (a' := ?_) #[true, true, true, true, true, true, true, true, true, true, true, true, false, false, false, false] rfl rfl (take_ofW HT_.out HW_.out t7_) (fun _ _ _ h => h) (Or.inl ⟨by rfl, ?_⟩) hHeld ?_ ?_
                  rotate_left
                  ·
                   rintro w' ⟨s0, s1⟩
                   go_simp
                   with_reducible rfl
                  rotate_left
                  ·
                   simp only [Act.put, List.setIfInBounds_toArray, List.set_cons_zero, List.set_cons_succ, i64_w, i32_w]
                   rfl
                  refine pure_ (i := 12) (N := some 45) (v := ?_) (a' := ?_) #[true, true, true, true, true, true, true, true, true, true, true, true, true, false, false, false] rfl rfl (any_of HT_.out t7_) (fun _ _ _ h => h) (Or.inl ⟨by rfl, ?_⟩) ?_ ?_
                  rotate_left
                  ·
                   intro w'
                   go_simp
                   with_reducible rfl
                  rotate_left
                  ·
                   simp only [Act.put, List.setIfInBounds_toArray, List.set_cons_zero, List.set_cons_succ, i64_w, i32_w]
                   rfl
                  refine one_ (i := 13) (N := some 46) #[true, true, true, true, true, true, true, true, true, true, true, true, true, true, false, false] rfl rfl (one_of HT_.out t7_) t19_ (fun K hK => ?_)
                  refine goes_ Tryz.func41 t7_ rfl #[.int .i64 (wrap64 ((rd x6_2 x7_1) + (rd x6_2 (ji21)))), .int .i64 1000000000000001] (by rfl) rfl rfl (by (try simp only [List.map_toArray, List.map_cons, List.map_nil]); first | done | (simp only [hji21]; rfl) | rfl | (simp only [List.length_drop, List.length_take]; rfl)) ?_
                  with_reducible refine (spec_l1Least.calls (wrap64 ((rd x6_2 x7_1) + (rd x6_2 (ji21)))) 1000000000000001 t293 _ A24.out).mono ?_
                  rintro e w' ⟨rfl, ⟨nd, rfl⟩⟩
                  refine ⟨_, rfl, ?_⟩
                  have p25 : 0 ≤ (x7_1 : Int) := of_decide_eq_true t0_; have q25 : (x7_1 : Int) < ((x6_2.length : Int) : Int) := of_decide_eq_true t0_; obtain ⟨hx25_0, hf25_0⟩ := Kd.R_celln 0 HO_6.out (x7_1 : Int) p25 q25; replace p25 := eq_true p25; replace q25 := eq_true q25; have HP27 := Kd.R_putn HO_6.out (x7_1 : Int) t293; rw [← Ny294.out] at HP27; have HQ27 := a_ HP27; clear HP27
                  refine hK.out _ _ ⟨hHeld.1, hHeld.2⟩ (fun hHeld => ?_)
                  clear hK K
                  refine norm_ (a' := ?_) ?_ ?_
                  rotate_left
                  ·
                   show Act.put _ (some 46) _ = _
                   simp only [Act.put, List.setIfInBounds_toArray, List.set_cons_zero, List.set_cons_succ, i64_w, i32_w]
                   rfl
                  refine pure_ (i := 14) (N := some 47) (v := ?_) (a' := ?_) #[true, true, true, true, true, true, true, true, true, true, true, true, true, true, true, false] rfl rfl (any_of HT_.out t7_) (fun _ _ _ h => h) (Or.inl ⟨by rfl, ?_⟩) ?_ ?_
                  rotate_left
                  ·
                   intro w'
                   go_simp
                   with_reducible rfl
                  rotate_left
                  ·
                   simp only [Act.put, List.setIfInBounds_toArray, List.set_cons_zero, List.set_cons_succ, i64_w, i32_w]
                   rfl
                  refine last_ (i := 15) (N := none) #[true, true, true, true, true, true, true, true, true, true, true, true, true, true, true, true] rfl rfl (one_of HT_.out t7_) t19_ (fun K hK => ?_)
                  refine skip_ (w1 := ?_) (by rfl) rfl ?_ ?_
                  rotate_left
                  ·
                   go_simp
                   rfl
                  refine hK.out _ _ ?_
                  clear hK K
                  refine done_ (done_of HT_.out t7_) ?_
                  try go_wp2
                  (try simp only [← hl6_2])
                  go_roundg k2
                  case measure => have := HK1.out; have := HK2.out; omega
                  case rel => exact ⟨(y294), (wrap64 (x26_2 + 1)), t2_, H', ⟨t9_⟩, ⟨t24_⟩, ⟨t14_⟩⟩
                 ·
                  rw [if_neg c23] at H
                  exact absurd H t8_
                ·
                 rw [if_neg c22] at H
                 exact absurd H t8_
               ·
                rw [if_neg c20] at H
                exact absurd H t8_
              ·
               rw [if_neg c19] at H
               exact absurd H t8_
             ·
              rw [if_neg c18] at H; have c18b0 : decide ((rd l0 x26_2) ≤ x7_1) = false := decide_eq_false c18; clear c18; have H' := a_ H; clear H; have p290 : 0 ≤ (x26_2 : Int) := of_decide_eq_true t0_; have q290 : x26_2 < (l0.length : Int) := of_decide_eq_true t0_; obtain ⟨ad290, e290, hx290_0⟩ := Kd.at_int HR0.out x26_2 p290 q290
              cases e290
              replace hx290_0 := (HB.out.cell (World.block_lt_of_cell? w _ hx290_0)).trans hx290_0; replace p290 := eq_true p290; replace q290 := eq_true q290
              go_wp2
              (try simp only [← hl6_2])
              go_roundg k2
              case measure => have := HK1.out; have := HK2.out; omega
              case rel => exact ⟨(x6_2), (wrap64 (x26_2 + 1)), t2_, H', ⟨t9_⟩, ⟨t12_⟩, ⟨L_ HB.out (Nat.le_refl _) (Nat.le_refl _) (Nat.le_refl _)⟩⟩
            ·
             rw [if_neg c17] at H
             exact absurd H t8_
           ·
            rw [if_neg c16] at H
            exact absurd H t8_
          ·
           rw [if_neg c15] at H; have c15b0 : decide (x26_2 < (l0.length : Int)) = false := decide_eq_false c15; clear c15; have H' := a_ H; clear H
           go_wp2
           (try simp only [← hl6_1, ← hl6_2])
           go_roundg k2
           case measure => have := HK1.out; have := HK2.out; omega
           case rel => exact ⟨(x6_2), (wrap64 (x7_1 + 1)), t2_, H', ⟨t9_⟩, ⟨t12_⟩, ⟨L_ HB.out (Nat.le_refl _) (Nat.le_refl _) (Nat.le_refl _)⟩⟩
       ·
        rw [if_neg c14] at H; have c14b0 : decide (x7_1 ≤ a1) = false := decide_eq_false c14; clear c14
        by_cases c28 : 0 ≤ a1
        ·
         rw [if_pos c28] at H; have c28b0 : decide (0 ≤ a1) = true := decide_eq_true c28; clear c28
         by_cases c29 : a1 < (x6_1.length : Int)
         ·
          rw [if_pos c29] at H; have c29b0 : decide (a1 < (x6_1.length : Int)) = true := decide_eq_true c29; clear c29
          by_cases c30 : (rd x6_1 a1) > 1000000000000000
          ·
           rw [if_pos c30] at H; have c30b0 : decide (1000000000000000 < (rd x6_1 a1)) = true := decide_eq_true c30; clear c30; simp only [Option.some.injEq, Prod.mk.injEq] at H; obtain ⟨rfl, rfl⟩ := H; have p288 : 0 ≤ (a1 : Int) := of_decide_eq_true t0_; have q288 : a1 < (x6_1.length : Int) := of_decide_eq_true t0_; obtain ⟨ad288, e288, hx288_0⟩ := Kd.at_int (Kd.R_reads' HO_6.out).2.2 a1 p288 q288; obtain rfl : (⟨go9, 0, none⟩ : Addr) = ad288 := (by injection e288)
           (first | simp only [add_plain] at hx288_0 | simp only [add_at] at hx288_0 | simp only [Addr.add, Nat.zero_add] at hx288_0 | skip)
           replace p288 := eq_true p288; replace q288 := eq_true q288
           go_wp2
           go_ret2
           exact ⟨by first | rfl | (simp [errW_none, errW_some] <;> rfl) | (simp only [← hji5]; first | rfl | (simp [errW_none, errW_some] <;> rfl)) | (simp [*, errW_none, errW_some] <;> rfl), by repeat (first | (with_reducible first | exact HB.out | apply below_alloc | apply pw_below_drewN | apply below_drew1) | exact HB.out)⟩
          ·
           rw [if_neg c30] at H; have c30b0 : decide (1000000000000000 < (rd x6_1 a1)) = false := decide_eq_false c30; clear c30; simp only [Option.some.injEq, Prod.mk.injEq] at H; obtain ⟨rfl, rfl⟩ := H; have p288 : 0 ≤ (a1 : Int) := of_decide_eq_true t0_; have q288 : a1 < (x6_1.length : Int) := of_decide_eq_true t0_; obtain ⟨ad288, e288, hx288_0⟩ := Kd.at_int (Kd.R_reads' HO_6.out).2.2 a1 p288 q288; obtain rfl : (⟨go9, 0, none⟩ : Addr) = ad288 := (by injection e288)
           (first | simp only [add_plain] at hx288_0 | simp only [add_at] at hx288_0 | simp only [Addr.add, Nat.zero_add] at hx288_0 | skip)
           replace p288 := eq_true p288; replace q288 := eq_true q288; have p289 : 0 ≤ (a1 : Int) := of_decide_eq_true t0_; have q289 : a1 < (x6_1.length : Int) := of_decide_eq_true t0_; obtain ⟨ad289, e289, hx289_0⟩ := Kd.at_int (Kd.R_reads' HO_6.out).2.2 a1 p289 q289; obtain rfl : (⟨go9, 0, none⟩ : Addr) = ad289 := (by injection e289)
           (first | simp only [add_plain] at hx289_0 | simp only [add_at] at hx289_0 | simp only [Addr.add, Nat.zero_add] at hx289_0 | skip)
           replace p289 := eq_true p289; replace q289 := eq_true q289
           go_wp2
           go_ret2
           exact ⟨by first | rfl | (simp [errW_none, errW_some] <;> rfl) | (simp only [← hji5]; first | rfl | (simp [errW_none, errW_some] <;> rfl)) | (simp [*, errW_none, errW_some] <;> rfl), by repeat (first | (with_reducible first | exact HB.out | apply below_alloc | apply pw_below_drewN | apply below_drew1) | exact HB.out)⟩
         ·
          rw [if_neg c29] at H
          exact absurd H t8_
        ·
         rw [if_neg c28] at H
         exact absurd H t8_
    ·
     rw [if_neg c8] at H
     exact absurd H t8_
   ·
    rw [if_neg c7] at H
    exact absurd H t8_
  ·
   rw [if_neg c6] at H
   exact absurd H t8_
 ·
  replace c4 := Bool.eq_false_iff.mpr c4; subst c4; have H1 : (some (0, false)) = some (r1, r2) := by rw [if_neg (show ¬ (false = true) by decide)] at H; exact H
  clear H; have H := H1; clear H1; simp only [Option.some.injEq, Prod.mk.injEq] at H; obtain ⟨rfl, rfl⟩ := H
  go_enter Tryz.func15, Tryz.ntmps15
  go_wp2_with (first | ((with_reducible refine gate_callee (f := 35) rfl ?_); refine goesL_ (some 12) rfl rfl Tryz.func35 t7_ rfl #[.slice A0 l0.length c0, .int .i64 a1] rfl (by (try simp only [m1_, m2_, m3_]); first | done | rfl) ?_; (with_reducible refine (spec_goAsked.calls k _ _ l0 a1 false _ ?side1 ?side2 A3.out).mono ?_); (case side1 => repeat (first | exact HR0.out | (with_reducible refine Kd.C_alloc ?_ _) | (with_reducible refine Kd.C_drewN ?_ _) | (with_reducible refine Kd.C_drew ?_))); (case side2 => exact HC0.out); rintro e w' ⟨rfl, ⟨nd, rfl⟩⟩; refine ⟨_, rfl, ?_⟩))
  go_ret2
  exact ⟨by first | rfl | (simp [errW_none, errW_some] <;> rfl) | (simp [*, errW_none, errW_some] <;> rfl), by repeat (first | (with_reducible first | exact HB.out | apply below_alloc | apply pw_below_drewN | apply below_drew1) | exact HB.out)⟩
def impl_NotReached.l0 : Nat → List Int → List Int → Int → Int → Option (List Int × Bool)
 | 0, _, _, _, _ => none
 | k + 1, x6, x16, x17, x18 => if x18 < x17 then (if 0 ≤ x18 then (if x18 < (x16.length : Int) then (if (rd x16 x18) < 0 then (if x6.length < 17592186044416 then (impl_NotReached.l0 k (x6 ++ [x18]) x16 x17 (wrap64 (x18 + 1))) else (none)) else (impl_NotReached.l0 k x6 x16 x17 (wrap64 (x18 + 1)))) else (none)) else (none)) else (some (x6, true))
def impl_NotReached.f (k : Nat) (l0 : List Int) (a1 : Int) : Option (List Int × Bool) := (impl_isAsked.f k l0 a1).bind fun t295 => (if t295 = true then ((impl_fewGoals.f k l0 a1).bind fun t299 => (impl_NotReached.l0 k (([] : List Int)) t299 (t299.length : Int) 0)) else (some (([] : List Int), false)))
set_option maxHeartbeats 8000000 in
set_option maxRecDepth 100000 in
theorem impl_NotReached.calls (k : Nat) (A0 : Option Addr) (c0 : Nat) (l0 : List Int) (a1 : Int) (r1 : List Int) (r2 : Bool) (w : World) (hr0 : Kd.C (Kd.int .i64) w A0 l0.length l0) (hc0 : l0.length ≤ c0) (h : impl_NotReached.f k l0 a1 = some (r1, r2)) :
  Calls Tryz.prog 16 #[.slice A0 l0.length c0, .int .i64 a1] w fun e w' => ∃ v0_ : Value, e = .returned (.tuple #[v0_, .bool r2]) ∧ Kd.R (Kd.int .i64) 3 w' w.heap.size (fun _ => True) v0_ r1 ∧ Below w.heap.size w w' := by
 have HR0 := a_ hr0; have HC0 := a_ hc0; clear hr0 hc0; have HB := a_ (Below.refl w.heap.size w); have H : ((impl_isAsked.f k l0 a1).bind fun t295 => (if t295 = true then ((impl_fewGoals.f k l0 a1).bind fun t299 => (impl_NotReached.l0 k (([] : List Int)) t299 (t299.length : Int) 0)) else (some (([] : List Int), false)))) = some (r1, r2) := h; clear h; replace H := Option.bind_eq_some_iff.mp H; obtain ⟨t295, A30, H⟩ := H; replace H : (if t295 = true then ((impl_fewGoals.f k l0 a1).bind fun t299 => (impl_NotReached.l0 k (([] : List Int)) t299 (t299.length : Int) 0)) else (some (([] : List Int), false))) = some (r1, r2) := H; have A3 := a_ A30; clear A30
 by_cases c4 : t295 = true
 ·
  subst c4; have H1 : ((impl_fewGoals.f k l0 a1).bind fun t299 => (impl_NotReached.l0 k (([] : List Int)) t299 (t299.length : Int) 0)) = some (r1, r2) := by rw [if_pos rfl] at H; exact H
  clear H; have H := H1; clear H1; obtain ⟨y296, hy296⟩ : ∃ y_ : List Int, y_ = (([] : List Int)) := ⟨_, rfl⟩; replace H : ((impl_fewGoals.f k l0 a1).bind fun t299 => (impl_NotReached.l0 k y296 t299 (t299.length : Int) 0)) = some (r1, r2) := by first | (rw [hy296]; with_reducible exact H) | (have H2_ := (Option.bind_some _ _).symm.trans H; rw [hy296]; with_reducible exact H2_) | (have H2_ := (Option.bind_some _ _).symm.trans H; with_reducible exact H2_) | with_reducible exact H | (rw [hy296]; exact H) | exact H
  have Ny296 := a_ hy296; clear hy296; replace H := Option.bind_eq_some_iff.mp H; obtain ⟨t299, A50, H⟩ := H; replace H : (impl_NotReached.l0 k y296 t299 (t299.length : Int) 0) = some (r1, r2) := H; have A5 := a_ A50; clear A50; have H' := a_ H; clear H
  go_enter Tryz.func16, Tryz.ntmps16
  go_wp2_with (first | ((with_reducible refine gate_callee (f := 38) rfl ?_); refine goesL_ (some 11) rfl rfl Tryz.func38 t7_ rfl #[.slice A0 l0.length c0, .int .i64 a1] rfl (by (try simp only [m1_, m2_, m3_]); first | done | rfl) ?_; (with_reducible refine (impl_isAsked.calls k _ _ l0 a1 true _ ?side1 ?side2 A3.out).mono ?_); (case side1 => repeat (first | exact HR0.out | (with_reducible refine Kd.C_alloc ?_ _) | (with_reducible refine Kd.C_drewN ?_ _) | (with_reducible refine Kd.C_drew ?_))); (case side2 => exact HC0.out); rintro e w' ⟨rfl, ⟨nd, rfl⟩⟩; refine ⟨_, rfl, ?_⟩) | ((with_reducible refine gate_dst (N := 13) rfl ?_); refine Kd.R_lit (Kd.int .i64) _ 3 ?hg (N := 13) ?hd (xs := ([] : List Int)) (inner := []) (ok := fun _ => True) (okp := fun _ => True) ?hr ?hp (fun _ hk => hk) trivial (Below.refl _ _) (Nat.le_refl _) t8_ ?_; (case hd => rfl); (case hg => rfl); (case hr => first | (go_simp; done) | (go_simp; rfl)); (case hp => exact (Reps.none _ _)); intro v297 w6 ho7 hb hg_ hnew_; clear hg_ hnew_; (first | rw [← Ny296.out] at ho7 | (simp only [Int.reduceToNat] at ho7; rw [← Ny296.out] at ho7)); have n0_ := a_ (Kd.R_lower ho7 (below_size (L_ HB.out (Nat.le_refl _) (Nat.le_refl _) (Nat.le_refl _)))); have n1_ := a_ (below_step (L_ HB.out (Nat.le_refl _) (Nat.le_refl _) (Nat.le_refl _)) hb); clear HB; have HO298 := n0_; have HB := n1_; clear n0_ n1_; clear hb ho7) | ((with_reducible refine gate_callee (f := 39) rfl ?_); refine goesL_ (some 16) rfl rfl Tryz.func39 t7_ rfl #[.slice A0 l0.length c0, .int .i64 a1] rfl (by (try simp only [m1_, m2_, m3_]); first | done | rfl) ?_; (with_reducible refine (impl_fewGoals.calls k _ _ l0 a1 t299 _ ?side1 ?side2 A5.out).mono ?_); (case side1 => repeat (first | exact (Kd.C_below HR0.out HB.out) | (with_reducible refine Kd.C_alloc ?_ _) | (with_reducible refine Kd.C_drewN ?_ _) | (with_reducible refine Kd.C_drew ?_))); (case side2 => exact HC0.out); rintro e w8 ⟨v300, rfl, ho0, hb⟩; refine ⟨_, rfl, ?_⟩; have n0_ := a_ (Kd.R_elder' (R_ HO298.out) (Kd.R_base ho0) hb); have n1_ := a_ (Kd.R_lower (Kd.R_new' ho0 (Kd.R_lt (R_ HO298.out))) (below_size (L_ HB.out (Nat.le_refl _) (Nat.le_refl _) (Nat.le_refl _)))); have n2_ := a_ (below_step (L_ HB.out (Nat.le_refl _) (Nat.le_refl _) (Nat.le_refl _)) hb); clear HO298; clear HB; have HO298 := n0_; have HO301 := n1_; have HB := n2_; clear n0_ n1_ n2_; (try clear hb); (try clear hb2); (try clear hk); (try clear hi); (try clear ho0); obtain ⟨Ao9, co9, eo9⟩ := Kd.R_slice HO301.out; subst eo9))
  go_loopg [6, 18] k (fun kq v6 v18 w' => ∃ (x6_1 : List Int) (x18_1 : Int), v18 = .int .i64 x18_1 ∧ Aside0 (impl_NotReached.l0 kq x6_1 t299 (t299.length : Int) x18_1 = some (r1, r2)) ∧ Aside0 (kq ≤ k) ∧ Aside0 (Kd.R (Kd.int .i64) 3 w' w.heap.size (fun k_ => some k_ ≠ ((.slice Ao9 t299.length co9) : Value).ownBlock) v6 x6_1) ∧ Aside0 (Kd.R (Kd.int .i64) 3 w' w.heap.size (fun k_ => some k_ ≠ (v6 : Value).ownBlock) (.slice Ao9 t299.length co9) t299) ∧ Aside0 (Below w.heap.size w w'))
  case atStart => exact ⟨(y296), (0), t2_, H', ⟨Nat.le_refl _⟩, ⟨by (with_reducible repeat (first | apply Kd.R_alloc | apply Kd.R_drewN | apply Kd.R_drew)); exact Kd.R_mono HO298.out (fun _ hk => hk.2)⟩, ⟨by (with_reducible repeat (first | apply Kd.R_alloc | apply Kd.R_drewN | apply Kd.R_drew)); exact Kd.R_mono HO301.out (fun _ hk => hk.2)⟩, ⟨L_ HB.out (Nat.le_refl _) (Nat.le_refl _) (Nat.le_refl _)⟩⟩
  case round =>
   clear H'; obtain ⟨x6_1, x18_1, rfl, HA, HK1, HO_6, HO_16, HB⟩ := hrel
   cases gk with
   | zero => exact absurd HA.out (by simp [impl_NotReached.l0])
   | succ k1 =>
    have H := HA.out; clear HA; simp only [impl_NotReached.l0] at H
    by_cases c10 : x18_1 < (t299.length : Int)
    ·
     rw [if_pos c10] at H; have c10b0 : decide (x18_1 < (t299.length : Int)) = true := decide_eq_true c10; clear c10
     by_cases c11 : 0 ≤ x18_1
     ·
      rw [if_pos c11] at H; have c11b0 : decide (0 ≤ x18_1) = true := decide_eq_true c11; clear c11
      by_cases c12 : x18_1 < (t299.length : Int)
      ·
       rw [if_pos c12] at H; have c12b0 : decide (x18_1 < (t299.length : Int)) = true := decide_eq_true c12; clear c12
       by_cases c13 : (rd t299 x18_1) < 0
       ·
        rw [if_pos c13] at H; have c13b0 : decide ((rd t299 x18_1) < 0) = true := decide_eq_true c13; clear c13
        by_cases c14 : x6_1.length < 17592186044416
        ·
         rw [if_pos c14] at H; have LMc14 := a_ c14; clear c14; obtain ⟨y303, hy303⟩ : ∃ y_ : List Int, y_ = (x6_1 ++ [x18_1]) := ⟨_, rfl⟩; replace H : (impl_NotReached.l0 k1 y303 t299 (t299.length : Int) (wrap64 (x18_1 + 1))) = some (r1, r2) := by first | (rw [hy303]; with_reducible exact H) | (have H2_ := (Option.bind_some _ _).symm.trans H; rw [hy303]; with_reducible exact H2_) | (have H2_ := (Option.bind_some _ _).symm.trans H; with_reducible exact H2_) | with_reducible exact H | (rw [hy303]; exact H) | exact H
         have Ny303 := a_ hy303; clear hy303; have H' := a_ H; clear H; have p302 : 0 ≤ (x18_1 : Int) := of_decide_eq_true t0_; have q302 : x18_1 < (t299.length : Int) := of_decide_eq_true t0_; obtain ⟨ad302, e302, hx302_0⟩ := Kd.at_int (Kd.R_reads' HO_16.out).2.2 x18_1 p302 q302
         cases e302
         replace p302 := eq_true p302; replace q302 := eq_true q302
         go_wp2_with (first | ((with_reducible refine gate_builtin (b := .append) (xs := #[.tmp 25, .tmp 27]) rfl ?_); at_builtin; refine Kd.R_append (Kd.int .i64) (w0 := w) w.heap.size rfl (.tmp 25) (.tmp 27) 24 3 (.int .i64 0) 8 rfl Tryz.underlying24 info3 rfl t19_ t18_ u6 x6_1 x18_1 [.int .i64 x18_1] (fun k_ => some k_ ≠ (.slice (some ad302) t299.length co9 : Value).ownBlock) (fun _ => False) rfl rfl ?aP (fun _ hk => hk.elim) ?aF ?aO ?aB ?aS ?aL ?_; (case aP => exact rfl); (case aB => exact (L_ HB.out (Nat.le_refl _) (Nat.le_refl _) (Nat.le_refl _))); (case aF => exact (fun k_ hk => Kd.fresh' (Kd.R_lt (R_ HO_16.out)) k_ hk)); (case aO => exact (R_ HO_6.out)); (case aS => exact (below_size (L_ HB.out (Nat.le_refl _) (Nat.le_refl _) (Nat.le_refl _)))); (case aL => have := LMc14.out; omega); intro v304 w15 ho hb hg hat; rw [← Ny303.out] at ho; have n0_ := a_ (Kd.R_after (ok := (fun _ => True)) (by (with_reducible repeat (first | apply Kd.R_alloc | apply Kd.R_drewN | apply Kd.R_drew)); exact Kd.R_mono HO_16.out (fun _ hk => ⟨trivial, hk⟩)) hg hat); have n1_ := a_ (hb); have n2_ := a_ (ho); clear HO_16; clear HB; clear HO_6; have HO_16 := n0_; have HB := n1_; have HO305 := n2_; clear n0_ n1_ n2_; clear ho hb hg hat))
         go_roundg k1
         case measure => have := HK1.out; omega
         case rel => exact ⟨(y303), (wrap64 (x18_1 + 1)), t2_, H', ⟨t17_⟩, ⟨R_ HO305.out⟩, ⟨by (with_reducible repeat (first | apply Kd.R_alloc | apply Kd.R_drewN | apply Kd.R_drew)); exact Kd.R_mono HO_16.out (fun _ hk => hk.2)⟩, ⟨L_ HB.out (Nat.le_refl _) (Nat.le_refl _) (Nat.le_refl _)⟩⟩
        ·
         rw [if_neg c14] at H
         exact absurd H t8_
       ·
        rw [if_neg c13] at H; have c13b0 : decide ((rd t299 x18_1) < 0) = false := decide_eq_false c13; clear c13; have H' := a_ H; clear H; have p302 : 0 ≤ (x18_1 : Int) := of_decide_eq_true t0_; have q302 : x18_1 < (t299.length : Int) := of_decide_eq_true t0_; obtain ⟨ad302, e302, hx302_0⟩ := Kd.at_int (Kd.R_reads' HO_16.out).2.2 x18_1 p302 q302
        cases e302
        replace p302 := eq_true p302; replace q302 := eq_true q302
        go_wp2
        go_roundg k1
        case measure => have := HK1.out; omega
        case rel => exact ⟨(x6_1), (wrap64 (x18_1 + 1)), t2_, H', ⟨t17_⟩, ⟨R_ HO_6.out⟩, ⟨R_ HO_16.out⟩, ⟨L_ HB.out (Nat.le_refl _) (Nat.le_refl _) (Nat.le_refl _)⟩⟩
      ·
       rw [if_neg c12] at H
       exact absurd H t8_
     ·
      rw [if_neg c11] at H
      exact absurd H t8_
    ·
     rw [if_neg c10] at H; have c10b0 : decide (x18_1 < (t299.length : Int)) = false := decide_eq_false c10; clear c10; simp only [Option.some.injEq, Prod.mk.injEq] at H; obtain ⟨rfl, rfl⟩ := H
     go_wp2
     go_ret2
     exact ⟨_, by first | rfl | (simp [errW_none, errW_some] <;> rfl) | (simp [*, errW_none, errW_some] <;> rfl), by (with_reducible repeat (first | apply Kd.R_alloc | apply Kd.R_drewN | apply Kd.R_drew)); exact Kd.R_mono HO_6.out (fun _ hk => trivial), by repeat (first | (with_reducible first | exact HB.out | apply below_alloc | apply pw_below_drewN | apply below_drew1) | exact HB.out)⟩
 ·
  replace c4 := Bool.eq_false_iff.mpr c4; subst c4; have H1 : (some (([] : List Int), false)) = some (r1, r2) := by rw [if_neg (show ¬ (false = true) by decide)] at H; exact H
  clear H; have H := H1; clear H1; simp only [Option.some.injEq, Prod.mk.injEq] at H; obtain ⟨rfl, rfl⟩ := H
  go_enter Tryz.func16, Tryz.ntmps16
  go_wp2_with (first | ((with_reducible refine gate_callee (f := 38) rfl ?_); refine goesL_ (some 11) rfl rfl Tryz.func38 t7_ rfl #[.slice A0 l0.length c0, .int .i64 a1] rfl (by (try simp only [m1_, m2_, m3_]); first | done | rfl) ?_; (with_reducible refine (impl_isAsked.calls k _ _ l0 a1 false _ ?side1 ?side2 A3.out).mono ?_); (case side1 => repeat (first | exact HR0.out | (with_reducible refine Kd.C_alloc ?_ _) | (with_reducible refine Kd.C_drewN ?_ _) | (with_reducible refine Kd.C_drew ?_))); (case side2 => exact HC0.out); rintro e w' ⟨rfl, ⟨nd, rfl⟩⟩; refine ⟨_, rfl, ?_⟩))
  go_ret2
  exact ⟨_, by first | rfl | (simp [errW_none, errW_some] <;> rfl) | (simp [*, errW_none, errW_some] <;> rfl), by first | exact Kd.R_nil _ _ _ _ _ | exact Kd.N_nil _ _ _ _ _ | exact Kd.V_nil _ _ _ _ _ | exact Kd.Q_nil _ _ _ _ _ | exact Kd.S_nil _ _ _ _ _, by repeat (first | (with_reducible first | exact HB.out | apply below_alloc | apply pw_below_drewN | apply below_drew1) | exact HB.out)⟩
def spec_NotReached.l0 : Nat → List Int → List Int → Int → Int → Option (List Int × Bool)
 | 0, _, _, _, _ => none
 | k + 1, x6, x15, x16, x17 => if x17 < x16 then (if 0 ≤ x17 then (if x17 < (x15.length : Int) then (if (rd x15 x17) < 0 then (if x6.length < 17592186044416 then (spec_NotReached.l0 k (x6 ++ [x17]) x15 x16 (wrap64 (x17 + 1))) else (none)) else (spec_NotReached.l0 k x6 x15 x16 (wrap64 (x17 + 1)))) else (none)) else (none)) else (some (x6, true))
def spec_NotReached.f (k : Nat) (l0 : List Int) (a1 : Int) : Option (List Int × Bool) := (spec_goAsked.f k l0 a1).bind fun t306 => (if t306 = true then ((spec_goFew.f k l0 a1).bind fun t307 => (spec_NotReached.l0 k ([] : List Int) t307 (t307.length : Int) 0)) else (some (([] : List Int), false)))
set_option maxHeartbeats 8000000 in
set_option maxRecDepth 100000 in
theorem spec_NotReached.calls (k : Nat) (A0 : Option Addr) (c0 : Nat) (l0 : List Int) (a1 : Int) (r1 : List Int) (r2 : Bool) (w : World) (hr0 : Kd.C (Kd.int .i64) w A0 l0.length l0) (hc0 : l0.length ≤ c0) (h : spec_NotReached.f k l0 a1 = some (r1, r2)) :
  Calls Tryz.prog 17 #[.slice A0 l0.length c0, .int .i64 a1] w fun e w' => ∃ v0_ : Value, e = .returned (.tuple #[v0_, .bool r2]) ∧ Kd.R (Kd.int .i64) 3 w' w.heap.size (fun _ => True) v0_ r1 ∧ Below w.heap.size w w' := by
 have HR0 := a_ hr0; have HC0 := a_ hc0; clear hr0 hc0; have HB := a_ (Below.refl w.heap.size w); have H : ((spec_goAsked.f k l0 a1).bind fun t306 => (if t306 = true then ((spec_goFew.f k l0 a1).bind fun t307 => (spec_NotReached.l0 k ([] : List Int) t307 (t307.length : Int) 0)) else (some (([] : List Int), false)))) = some (r1, r2) := h; clear h; replace H := Option.bind_eq_some_iff.mp H; obtain ⟨t306, A30, H⟩ := H; replace H : (if t306 = true then ((spec_goFew.f k l0 a1).bind fun t307 => (spec_NotReached.l0 k ([] : List Int) t307 (t307.length : Int) 0)) else (some (([] : List Int), false))) = some (r1, r2) := H; have A3 := a_ A30; clear A30
 by_cases c4 : t306 = true
 ·
  subst c4; have H1 : ((spec_goFew.f k l0 a1).bind fun t307 => (spec_NotReached.l0 k ([] : List Int) t307 (t307.length : Int) 0)) = some (r1, r2) := by rw [if_pos rfl] at H; exact H
  clear H; have H := H1; clear H1; replace H := Option.bind_eq_some_iff.mp H; obtain ⟨t307, A50, H⟩ := H; replace H : (spec_NotReached.l0 k ([] : List Int) t307 (t307.length : Int) 0) = some (r1, r2) := H; have A5 := a_ A50; clear A50; have H' := a_ H; clear H
  go_enter Tryz.func17, Tryz.ntmps17
  go_wp2_with (first | ((with_reducible refine gate_callee (f := 35) rfl ?_); refine goesL_ (some 11) rfl rfl Tryz.func35 t7_ rfl #[.slice A0 l0.length c0, .int .i64 a1] rfl (by (try simp only [m1_, m2_, m3_]); first | done | rfl) ?_; (with_reducible refine (spec_goAsked.calls k _ _ l0 a1 true _ ?side1 ?side2 A3.out).mono ?_); (case side1 => repeat (first | exact HR0.out | (with_reducible refine Kd.C_alloc ?_ _) | (with_reducible refine Kd.C_drewN ?_ _) | (with_reducible refine Kd.C_drew ?_))); (case side2 => exact HC0.out); rintro e w' ⟨rfl, ⟨nd, rfl⟩⟩; refine ⟨_, rfl, ?_⟩) | ((with_reducible refine gate_callee (f := 36) rfl ?_); refine goesL_ (some 15) rfl rfl Tryz.func36 t7_ rfl #[.slice A0 l0.length c0, .int .i64 a1] rfl (by (try simp only [m1_, m2_, m3_]); first | done | rfl) ?_; (with_reducible refine (spec_goFew.calls k _ _ l0 a1 t307 _ ?side1 ?side2 A5.out).mono ?_); (case side1 => repeat (first | exact HR0.out | (with_reducible refine Kd.C_alloc ?_ _) | (with_reducible refine Kd.C_drewN ?_ _) | (with_reducible refine Kd.C_drew ?_))); (case side2 => exact HC0.out); rintro e w6 ⟨v308, rfl, ho0, hb⟩; refine ⟨_, rfl, ?_⟩; have n0_ := a_ (Kd.R_lower ho0 (below_size (L_ HB.out (Nat.le_refl _) (Nat.le_refl _) (Nat.le_refl _)))); have n1_ := a_ (below_step (L_ HB.out (Nat.le_refl _) (Nat.le_refl _) (Nat.le_refl _)) hb); clear HB; have HO309 := n0_; have HB := n1_; clear n0_ n1_; (try clear hb); (try clear hb2); (try clear hk); (try clear hi); (try clear ho0); obtain ⟨Ao7, co7, eo7⟩ := Kd.R_slice HO309.out; subst eo7))
  go_loopg [6, 17] k (fun kq v6 v17 w' => ∃ (x6_1 : List Int) (x17_1 : Int), v17 = .int .i64 x17_1 ∧ Aside0 (spec_NotReached.l0 kq x6_1 t307 (t307.length : Int) x17_1 = some (r1, r2)) ∧ Aside0 (kq ≤ k) ∧ Aside0 (Kd.R (Kd.int .i64) 3 w' w.heap.size (fun k_ => some k_ ≠ ((.slice Ao7 t307.length co7) : Value).ownBlock) v6 x6_1) ∧ Aside0 (Kd.R (Kd.int .i64) 3 w' w.heap.size (fun k_ => some k_ ≠ (v6 : Value).ownBlock) (.slice Ao7 t307.length co7) t307) ∧ Aside0 (Below w.heap.size w w'))
  case atStart => exact ⟨(([] : List Int)), (0), t2_, H', ⟨Nat.le_refl _⟩, ⟨t16_⟩, ⟨by (with_reducible repeat (first | apply Kd.R_alloc | apply Kd.R_drewN | apply Kd.R_drew)); exact Kd.R_mono HO309.out (fun _ hk => (by simp [Value.ownBlock]))⟩, ⟨L_ HB.out (Nat.le_refl _) (Nat.le_refl _) (Nat.le_refl _)⟩⟩
  case round =>
   clear H'; obtain ⟨x6_1, x17_1, rfl, HA, HK1, HO_6, HO_15, HB⟩ := hrel
   cases gk with
   | zero => exact absurd HA.out (by simp [spec_NotReached.l0])
   | succ k1 =>
    have H := HA.out; clear HA; simp only [spec_NotReached.l0] at H
    by_cases c8 : x17_1 < (t307.length : Int)
    ·
     rw [if_pos c8] at H; have c8b0 : decide (x17_1 < (t307.length : Int)) = true := decide_eq_true c8; clear c8
     by_cases c9 : 0 ≤ x17_1
     ·
      rw [if_pos c9] at H; have c9b0 : decide (0 ≤ x17_1) = true := decide_eq_true c9; clear c9
      by_cases c10 : x17_1 < (t307.length : Int)
      ·
       rw [if_pos c10] at H; have c10b0 : decide (x17_1 < (t307.length : Int)) = true := decide_eq_true c10; clear c10
       by_cases c11 : (rd t307 x17_1) < 0
       ·
        rw [if_pos c11] at H; have c11b0 : decide ((rd t307 x17_1) < 0) = true := decide_eq_true c11; clear c11
        by_cases c12 : x6_1.length < 17592186044416
        ·
         rw [if_pos c12] at H; have LMc12 := a_ c12; clear c12; obtain ⟨y311, hy311⟩ : ∃ y_ : List Int, y_ = (x6_1 ++ [x17_1]) := ⟨_, rfl⟩; replace H : (spec_NotReached.l0 k1 y311 t307 (t307.length : Int) (wrap64 (x17_1 + 1))) = some (r1, r2) := by first | (rw [hy311]; with_reducible exact H) | (have H2_ := (Option.bind_some _ _).symm.trans H; rw [hy311]; with_reducible exact H2_) | (have H2_ := (Option.bind_some _ _).symm.trans H; with_reducible exact H2_) | with_reducible exact H | (rw [hy311]; exact H) | exact H
         have Ny311 := a_ hy311; clear hy311; have H' := a_ H; clear H; have p310 : 0 ≤ (x17_1 : Int) := of_decide_eq_true t0_; have q310 : x17_1 < (t307.length : Int) := of_decide_eq_true t0_; obtain ⟨ad310, e310, hx310_0⟩ := Kd.at_int (Kd.R_reads' HO_15.out).2.2 x17_1 p310 q310
         cases e310
         replace p310 := eq_true p310; replace q310 := eq_true q310
         go_wp2_with (first | ((with_reducible refine gate_builtin (b := .append) (xs := #[.tmp 24, .tmp 26]) rfl ?_); at_builtin; refine Kd.R_append (Kd.int .i64) (w0 := w) w.heap.size rfl (.tmp 24) (.tmp 26) 24 3 (.int .i64 0) 8 rfl Tryz.underlying24 info3 rfl t19_ t18_ u6 x6_1 x17_1 [.int .i64 x17_1] (fun k_ => some k_ ≠ (.slice (some ad310) t307.length co7 : Value).ownBlock) (fun _ => False) rfl rfl ?aP (fun _ hk => hk.elim) ?aF ?aO ?aB ?aS ?aL ?_; (case aP => exact rfl); (case aB => exact (L_ HB.out (Nat.le_refl _) (Nat.le_refl _) (Nat.le_refl _))); (case aF => exact (fun k_ hk => Kd.fresh' (Kd.R_lt (R_ HO_15.out)) k_ hk)); (case aO => exact (R_ HO_6.out)); (case aS => exact (below_size (L_ HB.out (Nat.le_refl _) (Nat.le_refl _) (Nat.le_refl _)))); (case aL => have := LMc12.out; omega); intro v312 w13 ho hb hg hat; rw [← Ny311.out] at ho; have n0_ := a_ (Kd.R_after (ok := (fun _ => True)) (by (with_reducible repeat (first | apply Kd.R_alloc | apply Kd.R_drewN | apply Kd.R_drew)); exact Kd.R_mono HO_15.out (fun _ hk => ⟨trivial, hk⟩)) hg hat); have n1_ := a_ (hb); have n2_ := a_ (ho); clear HO_15; clear HB; clear HO_6; have HO_15 := n0_; have HB := n1_; have HO313 := n2_; clear n0_ n1_ n2_; clear ho hb hg hat))
         go_roundg k1
         case measure => have := HK1.out; omega
         case rel => exact ⟨(y311), (wrap64 (x17_1 + 1)), t2_, H', ⟨t17_⟩, ⟨R_ HO313.out⟩, ⟨by (with_reducible repeat (first | apply Kd.R_alloc | apply Kd.R_drewN | apply Kd.R_drew)); exact Kd.R_mono HO_15.out (fun _ hk => hk.2)⟩, ⟨L_ HB.out (Nat.le_refl _) (Nat.le_refl _) (Nat.le_refl _)⟩⟩
        ·
         rw [if_neg c12] at H
         exact absurd H t8_
       ·
        rw [if_neg c11] at H; have c11b0 : decide ((rd t307 x17_1) < 0) = false := decide_eq_false c11; clear c11; have H' := a_ H; clear H; have p310 : 0 ≤ (x17_1 : Int) := of_decide_eq_true t0_; have q310 : x17_1 < (t307.length : Int) := of_decide_eq_true t0_; obtain ⟨ad310, e310, hx310_0⟩ := Kd.at_int (Kd.R_reads' HO_15.out).2.2 x17_1 p310 q310
        cases e310
        replace p310 := eq_true p310; replace q310 := eq_true q310
        go_wp2
        go_roundg k1
        case measure => have := HK1.out; omega
        case rel => exact ⟨(x6_1), (wrap64 (x17_1 + 1)), t2_, H', ⟨t17_⟩, ⟨R_ HO_6.out⟩, ⟨R_ HO_15.out⟩, ⟨L_ HB.out (Nat.le_refl _) (Nat.le_refl _) (Nat.le_refl _)⟩⟩
      ·
       rw [if_neg c10] at H
       exact absurd H t8_
     ·
      rw [if_neg c9] at H
      exact absurd H t8_
    ·
     rw [if_neg c8] at H; have c8b0 : decide (x17_1 < (t307.length : Int)) = false := decide_eq_false c8; clear c8; simp only [Option.some.injEq, Prod.mk.injEq] at H; obtain ⟨rfl, rfl⟩ := H
     go_wp2
     go_ret2
     exact ⟨_, by first | rfl | (simp [errW_none, errW_some] <;> rfl) | (simp [*, errW_none, errW_some] <;> rfl), by (with_reducible repeat (first | apply Kd.R_alloc | apply Kd.R_drewN | apply Kd.R_drew)); exact Kd.R_mono HO_6.out (fun _ hk => trivial), by repeat (first | (with_reducible first | exact HB.out | apply below_alloc | apply pw_below_drewN | apply below_drew1) | exact HB.out)⟩
 ·
  replace c4 := Bool.eq_false_iff.mpr c4; subst c4; have H1 : (some (([] : List Int), false)) = some (r1, r2) := by rw [if_neg (show ¬ (false = true) by decide)] at H; exact H
  clear H; have H := H1; clear H1; simp only [Option.some.injEq, Prod.mk.injEq] at H; obtain ⟨rfl, rfl⟩ := H
  go_enter Tryz.func17, Tryz.ntmps17
  go_wp2_with (first | ((with_reducible refine gate_callee (f := 35) rfl ?_); refine goesL_ (some 11) rfl rfl Tryz.func35 t7_ rfl #[.slice A0 l0.length c0, .int .i64 a1] rfl (by (try simp only [m1_, m2_, m3_]); first | done | rfl) ?_; (with_reducible refine (spec_goAsked.calls k _ _ l0 a1 false _ ?side1 ?side2 A3.out).mono ?_); (case side1 => repeat (first | exact HR0.out | (with_reducible refine Kd.C_alloc ?_ _) | (with_reducible refine Kd.C_drewN ?_ _) | (with_reducible refine Kd.C_drew ?_))); (case side2 => exact HC0.out); rintro e w' ⟨rfl, ⟨nd, rfl⟩⟩; refine ⟨_, rfl, ?_⟩))
  go_ret2
  exact ⟨_, by first | rfl | (simp [errW_none, errW_some] <;> rfl) | (simp [*, errW_none, errW_some] <;> rfl), by first | exact Kd.R_nil _ _ _ _ _ | exact Kd.N_nil _ _ _ _ _ | exact Kd.V_nil _ _ _ _ _ | exact Kd.Q_nil _ _ _ _ _ | exact Kd.S_nil _ _ _ _ _, by repeat (first | (with_reducible first | exact HB.out | apply below_alloc | apply pw_below_drewN | apply below_drew1) | exact HB.out)⟩
end Go.Proofs.YthcbaogbncakdaaGreatDoor.QFnGoalsReached
