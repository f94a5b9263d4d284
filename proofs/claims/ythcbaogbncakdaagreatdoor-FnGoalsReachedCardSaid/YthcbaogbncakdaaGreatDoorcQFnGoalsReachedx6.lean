import Derived.Test.YthcbaogbncakdaaGreatDoorcQFnGoalsReachedx0
import Derived.Test.YthcbaogbncakdaaGreatDoorcQFnGoalsReachedx3
import Derived.Test.YthcbaogbncakdaaGreatDoorcGQ
namespace Go.Proofs.YthcbaogbncakdaaGreatDoor.QFnGoalsReached
open Go.RowKit Go.Proofs.YthcbaogbncakdaaGreatDoorW.PrintWords Go.Proofs.YthcbaogbncakdaaGreatDoorW.PrintLast Go.Proofs.YthcbaogbncakdaaGreatDoorW.PrintMore Go.Proofs.YthcbaogbncakdaaGreatDoor.Sh
attribute [local go_sem] max2_int min2_int max_two min_two max_three min_three max_four min_four
set_option linter.unusedVariables false
set_option linter.unusedSimpArgs false
mutual
def spec_CountGoalLists.l0 : Nat → Int → List Int → List Int → Int → Int → Option (Int × Bool)
 | 0, _, _, _, _, _ => none
 | k + 1, x1, x6, x19, x20, x21 => if x21 < x20 then (if 0 ≤ x21 then (if x21 < (x19.length : Int) then (spec_CountGoalLists.l1 k x1 x6 (rd x19 x21) (rd x19 x21) x19 x20 x21) else (none)) else (none)) else (if 0 ≤ x1 then (if x1 < (x6.length : Int) then (some (rd x6 x1, true)) else (none)) else (none))
def spec_CountGoalLists.l1 : Nat → Int → List Int → Int → Int → List Int → Int → Int → Option (Int × Bool)
 | 0, _, _, _, _, _, _, _ => none
 | k + 1, x1, x6, x8, x9, x19, x20, x21 => if x9 ≤ x1 then (if 0 ≤ x9 then (if x9 < (x6.length : Int) then (if 0 ≤ (wrap64 (x9 - x8)) then (if (wrap64 (x9 - x8)) < (x6.length : Int) then (spec_CountGoalLists.l1 k x1 (x6.set (x9 : Int).toNat (wrap64 ((rd x6 x9) + (rd x6 (wrap64 (x9 - x8)))))) x8 (wrap64 (x9 + 1)) x19 x20 x21) else (none)) else (none)) else (none)) else (none)) else (spec_CountGoalLists.l0 k x1 x6 x19 x20 (wrap64 (x21 + 1)))
end
def spec_CountGoalLists.f (k : Nat) (l0 : List Int) (a1 : Int) : Option (Int × Bool) := (spec_goAsked.f k l0 a1).bind fun t261 => (if t261 = true then (if 0 ≤ (wrap64 (a1 + 1)) then (if (wrap64 (a1 + 1) : Int).toNat ≤ 35184372088832 then ((some (List.replicate (wrap64 (a1 + 1) : Int).toNat 0 : List Int)).bind fun y262 => (if 0 < (y262.length : Int) then (spec_CountGoalLists.l0 k a1 (y262.set (0 : Int).toNat 1) l0 (l0.length : Int) 0) else (none))) else (none)) else (none)) else (some (0, false)))
def spec_CountGoalLists.T11 : Bool × List (List Nat × List Nat) := (true, [([], []), ([], []), ([0, 1], [0, 1]), ([2], [2]), ([], []), ([], []), ([], []), ([5, 6], [5, 6]), ([4, 7], [4, 7]), ([8], [8]), ([3, 9], [3, 9]), ([0, 1, 0, 1, 2, 3, 4, 5, 6, 7, 8, 9, 10], [0, 1]), ([11, 10, 0, 1, 2, 3, 4, 5, 6, 7, 8, 9, 10], [10, 11])])
def spec_CountGoalLists.B11 : List Nat := [0, 0, 3, 7, 0, 0, 0, 96, 240, 496, 1023, 2047, 4095]
theorem spec_CountGoalLists.tab11 : rtab .any (opsOf Tryz.f13 11) = spec_CountGoalLists.T11 := by kernel_rfl
theorem spec_CountGoalLists.bits11 : waitsOk spec_CountGoalLists.T11.2 spec_CountGoalLists.B11 = true := by kernel_rfl
set_option maxHeartbeats 8000000 in
set_option maxRecDepth 100000 in
theorem spec_CountGoalLists.calls (k : Nat) (A0 : Option Addr) (c0 : Nat) (l0 : List Int) (a1 : Int) (r1 : Int) (r2 : Bool) (w : World) (hr0 : Kd.C (Kd.int .i64) w A0 l0.length l0) (hc0 : l0.length ≤ c0) (h : spec_CountGoalLists.f k l0 a1 = some (r1, r2)) :
  Calls Tryz.prog 13 #[.slice A0 l0.length c0, .int .i64 a1] w fun e w' => e = .returned (.tuple #[.int .i64 r1, .bool r2]) ∧ Below w.heap.size w w' := by
 have HR0 := a_ hr0; have HC0 := a_ hc0; clear hr0 hc0; have HB := a_ (Below.refl w.heap.size w); have H : ((spec_goAsked.f k l0 a1).bind fun t261 => (if t261 = true then (if 0 ≤ (wrap64 (a1 + 1)) then (if (wrap64 (a1 + 1) : Int).toNat ≤ 35184372088832 then ((some (List.replicate (wrap64 (a1 + 1) : Int).toNat 0 : List Int)).bind fun y262 => (if 0 < (y262.length : Int) then (spec_CountGoalLists.l0 k a1 (y262.set (0 : Int).toNat 1) l0 (l0.length : Int) 0) else (none))) else (none)) else (none)) else (some (0, false)))) = some (r1, r2) := h; clear h; replace H := Option.bind_eq_some_iff.mp H; obtain ⟨t261, A30, H⟩ := H; replace H : (if t261 = true then (if 0 ≤ (wrap64 (a1 + 1)) then (if (wrap64 (a1 + 1) : Int).toNat ≤ 35184372088832 then ((some (List.replicate (wrap64 (a1 + 1) : Int).toNat 0 : List Int)).bind fun y262 => (if 0 < (y262.length : Int) then (spec_CountGoalLists.l0 k a1 (y262.set (0 : Int).toNat 1) l0 (l0.length : Int) 0) else (none))) else (none)) else (none)) else (some (0, false))) = some (r1, r2) := H; have A3 := a_ A30; clear A30
 by_cases c4 : t261 = true
 ·
  subst c4; have H1 : (if 0 ≤ (wrap64 (a1 + 1)) then (if (wrap64 (a1 + 1) : Int).toNat ≤ 35184372088832 then ((some (List.replicate (wrap64 (a1 + 1) : Int).toNat 0 : List Int)).bind fun y262 => (if 0 < (y262.length : Int) then (spec_CountGoalLists.l0 k a1 (y262.set (0 : Int).toNat 1) l0 (l0.length : Int) 0) else (none))) else (none)) else (none)) = some (r1, r2) := by rw [if_pos rfl] at H; exact H
  clear H; have H := H1; clear H1; obtain ⟨ji5, hji5⟩ : ∃ j_ : Int, (wrap64 (a1 + 1)) = j_ := ⟨_, rfl⟩; replace H : (if 0 ≤ (ji5) then (if (ji5 : Int).toNat ≤ 35184372088832 then ((some (List.replicate (ji5 : Int).toNat 0 : List Int)).bind fun y262 => (if 0 < (y262.length : Int) then (spec_CountGoalLists.l0 k a1 (y262.set (0 : Int).toNat 1) l0 (l0.length : Int) 0) else (none))) else (none)) else (none)) = some (r1, r2) := by first | (rw [hji5] at H; exact H) | (simp only [hji5] at H ⊢; exact H)
  (try rw [hji5] at A3)
  have hji5w : (IntKind.i64.wrap (a1 + 1)) = ji5 := (i64_w _).trans hji5
  by_cases c6 : 0 ≤ (ji5)
  ·
   rw [if_pos c6] at H; have c6b0 := eq_true c6; have c6b1 : decide (0 ≤ (ji5)) = true := decide_eq_true c6; clear c6
   by_cases c7 : (ji5 : Int).toNat ≤ 35184372088832
   ·
    rw [if_pos c7] at H; have c7b0 := eq_true c7; have c7b1 : decide ((ji5 : Int).toNat ≤ 35184372088832) = true := decide_eq_true c7; clear c7; obtain ⟨y262, hy262⟩ : ∃ y_ : List Int, y_ = (List.replicate (ji5 : Int).toNat 0) := ⟨_, rfl⟩; replace H : (if 0 < (y262.length : Int) then (spec_CountGoalLists.l0 k a1 (y262.set (0 : Int).toNat 1) l0 (l0.length : Int) 0) else (none)) = some (r1, r2) := by first | (rw [hy262]; with_reducible exact H) | (have H2_ := (Option.bind_some _ _).symm.trans H; rw [hy262]; with_reducible exact H2_) | (have H2_ := (Option.bind_some _ _).symm.trans H; with_reducible exact H2_) | with_reducible exact H | (rw [hy262]; exact H) | exact H
    have Ny262 := a_ hy262; clear hy262
    by_cases c8 : 0 < (y262.length : Int)
    ·
     rw [if_pos c8] at H; have c8b0 : decide (0 < (y262.length : Int)) = true := decide_eq_true c8; have c8b1 : decide (0 < y262.length) = true := decide_eq_true t18_; clear c8; obtain ⟨y265, hy265⟩ : ∃ y_ : List Int, y_ = (y262.set (0 : Int).toNat 1) := ⟨_, rfl⟩; replace H : (spec_CountGoalLists.l0 k a1 y265 l0 (l0.length : Int) 0) = some (r1, r2) := by first | (rw [hy265]; with_reducible exact H) | (have H2_ := (Option.bind_some _ _).symm.trans H; rw [hy265]; with_reducible exact H2_) | (have H2_ := (Option.bind_some _ _).symm.trans H; with_reducible exact H2_) | with_reducible exact H | (rw [hy265]; exact H) | exact H
     have Ny265 := a_ hy265; clear hy265; have H' := a_ H; clear H
     go_enter Tryz.func13, Tryz.ntmps13
     go_wp2_with (first | ((with_reducible refine gate_callee (f := 35) rfl ?_); refine goesL_ (some 12) rfl rfl Tryz.func35 t7_ rfl #[.slice A0 l0.length c0, .int .i64 a1] rfl (by (try simp only [m1_, m2_, m3_]); first | done | rfl) ?_; (with_reducible refine (spec_goAsked.calls k _ _ l0 a1 true _ ?side1 ?side2 A3.out).mono ?_); (case side1 => repeat (first | exact HR0.out | (with_reducible refine Kd.C_alloc ?_ _) | (with_reducible refine Kd.C_drewN ?_ _) | (with_reducible refine Kd.C_drew ?_))); (case side2 => exact HC0.out); rintro e w' ⟨rfl, ⟨nd, rfl⟩⟩; refine ⟨_, rfl, ?_⟩) | ((with_reducible refine gate_dst (N := 16) rfl ?_); refine Kd.R_make (Kd.int .i64) _ 3 rfl (N := 16) rfl 24 _ _ rfl ji5 rfl rfl Tryz.underlying24 (.int .i64 0) 8 info3 rfl t19_ t18_ 0 (ok := fun _ => True) (okp := fun _ => True) rfl (fun _ hk => hk) trivial (of_decide_eq_true t0_) (Nat.le_trans (Nat.mul_le_mul_right _ (of_decide_eq_true t0_ : ji5.toNat ≤ 35184372088832)) t18_) (Below.refl _ _) (Nat.le_refl _) ?_; intro v263 w10 ho11 hb hg_ hnew_; clear hg_ hnew_; (first | rw [← Ny262.out] at ho11 | (simp only [Int.reduceToNat] at ho11; rw [← Ny262.out] at ho11)); have n0_ := a_ (Kd.R_lower ho11 (below_size (L_ HB.out (Nat.le_refl _) (Nat.le_refl _) (Nat.le_refl _)))); have n1_ := a_ (below_step (L_ HB.out (Nat.le_refl _) (Nat.le_refl _) (Nat.le_refl _)) hb); clear HB; have HO264 := n0_; have HB := n1_; clear n0_ n1_; clear hb ho11; have p9 : 0 ≤ (0 : Int) := t18_; have q9 : (0 : Int) < ((y262.length : Int) : Int) := of_decide_eq_true t0_; have qi9 : (0 < y262.length) = True := eq_true t18_; obtain ⟨go9, co9, eo9, gb9, gl9, cl9, HG9⟩ := Kd.R_form HO264.out t18_; (first | cases eo9 | (injection eo9 with ea_ en_ ec_; (first | subst ea_ | (injection ea_ with ea_; subst ea_)); subst ec_; clear en_)); have GB9 := a_ gb9; have GG9 := a_ HG9; clear gb9 gl9 HG9; obtain ⟨hx9_0, hf9_0⟩ := Kd.R_celln 0 HO264.out (0 : Int) p9 q9; (try rw [show ((0 : Int)).toNat = 0 from rfl] at hx9_0); (try simp only [Nat.reduceMul, Nat.zero_mul, Nat.zero_add, Nat.reduceAdd] at hx9_0); (try rw [show ((0 : Int)).toNat = 0 from rfl] at hf9_0); (try simp only [Nat.reduceMul, Nat.zero_mul, Nat.zero_add, Nat.reduceAdd] at hf9_0); replace p9 := eq_true p9; replace q9 := eq_true q9; obtain ⟨hy12_, hz12_⟩ := Kd.R_celln 0 HO264.out (0 : Int) t18_ (of_decide_eq_true t0_); (try simp only [Int.reduceToNat, Int.toNat_zero, Int.toNat_ofNat, Nat.reduceMul, Nat.zero_mul, Nat.zero_add] at hy12_ hz12_); (try rw [show ((0 : Int)).toNat = 0 from rfl] at hy12_); (try rw [show ((0 : Int)).toNat = 0 from rfl] at hz12_); have HP12 := Kd.R_putg HO264.out (0 : Int) 1) | ((with_reducible refine gate_store (t := 3) (p := 18) rfl ?_); refine store_event (t := 3) (p := 18) (v := ?vo_w13) (w1 := (w10.setCell ⟨go9, (0 : Int).toNat, none⟩ (.int .i64 1))) ?hg ?ho ?hn ?hr ?_; (case ho => rfl); (case hg => rfl); (case hn => rfl); (case hr => first | (go_simp; done) | (go_simp; rfl)); intro w13 hw; have hg : w10.grownBy w13 (some go9) := t26_; have hp_ : Kd.R (Kd.int .i64) 3 w13 w.heap.size (fun _ => True) (.slice (some ⟨go9, 0, none⟩) y262.length co9) y265 := (by rw [hw, Ny265.out]; exact HP12.1); clear HP12; have n0_ := a_ (hp_); have n1_ := a_ ((by rw [hw]; exact below_set (HB.out) GB9.out : Below w.heap.size w w13)); clear HO264; clear HB; have HO264 := n0_; have HB := n1_; clear n0_ n1_; clear hg hw hp_))
     go_loopg [21] k (fun kq v21 w' => ∃ (x6_1 : List Int) (x21_1 : Int), v21 = .int .i64 x21_1 ∧ Aside0 (spec_CountGoalLists.l0 kq a1 x6_1 l0 (l0.length : Int) x21_1 = some (r1, r2)) ∧ Aside0 (kq ≤ k) ∧ Aside0 (Kd.R (Kd.int .i64) 3 w' w.heap.size (fun _ => True) (.slice (some ⟨go9, 0, none⟩) y262.length co9) x6_1) ∧ Aside0 (Below w.heap.size w w'))
     case atStart => exact ⟨(y265), (0), t2_, H', ⟨Nat.le_refl _⟩, ⟨R_ HO264.out⟩, ⟨L_ HB.out (Nat.le_refl _) (Nat.le_refl _) (Nat.le_refl _)⟩⟩
     case round =>
      clear H'; obtain ⟨x6_1, x21_1, rfl, HA, HK1, HO_6, HB⟩ := hrel; have hl6_1 := (Kd.R_reads' HO_6.out).1; rw [hl6_1] at HO_6
      (try simp only [hl6_1])
      cases gk with
      | zero => exact absurd HA.out (by simp [spec_CountGoalLists.l0])
      | succ k1 =>
       have H := HA.out; clear HA; simp only [spec_CountGoalLists.l0] at H
       by_cases c14 : x21_1 < (l0.length : Int)
       ·
        rw [if_pos c14] at H; have c14b0 : decide (x21_1 < (l0.length : Int)) = true := decide_eq_true c14; clear c14
        by_cases c15 : 0 ≤ x21_1
        ·
         rw [if_pos c15] at H; have c15b0 : decide (0 ≤ x21_1) = true := decide_eq_true c15; clear c15
         by_cases c16 : x21_1 < (l0.length : Int)
         ·
          rw [if_pos c16] at H; have c16b0 : decide (x21_1 < (l0.length : Int)) = true := decide_eq_true c16; clear c16; have H' := a_ H; clear H; have p267 : 0 ≤ (x21_1 : Int) := of_decide_eq_true t0_; have q267 : x21_1 < (l0.length : Int) := of_decide_eq_true t0_; obtain ⟨ad267, e267, hx267_0⟩ := Kd.at_int HR0.out x21_1 p267 q267
          cases e267
          replace hx267_0 := (HB.out.cell (World.block_lt_of_cell? w _ hx267_0)).trans hx267_0; replace p267 := eq_true p267; replace q267 := eq_true q267
          go_wp2
          go_loopg [9] k1 (fun kq v9 w' => ∃ (x6_2 : List Int) (x9_2 : Int), v9 = .int .i64 x9_2 ∧ Aside0 (spec_CountGoalLists.l1 kq a1 x6_2 (rd l0 x21_1) x9_2 l0 (l0.length : Int) x21_1 = some (r1, r2)) ∧ Aside0 (kq ≤ k1) ∧ Aside0 (Kd.R (Kd.int .i64) 3 w' w.heap.size (fun _ => True) (.slice (some ⟨go9, 0, none⟩) x6_1.length co9) x6_2) ∧ Aside0 (Below w.heap.size w w'))
          case atStart => exact ⟨(x6_1), (rd l0 x21_1), t2_, H', ⟨Nat.le_refl _⟩, ⟨t20_⟩, ⟨L_ HB.out (Nat.le_refl _) (Nat.le_refl _) (Nat.le_refl _)⟩⟩
          case round =>
           clear H'; obtain ⟨x6_2, x9_2, rfl, HA, HK2, HO_6, HB⟩ := hrel; have hl6_2 := (Kd.R_reads' HO_6.out).1; rw [hl6_2] at HO_6
           (try simp only [hl6_2])
           cases gk with
           | zero => exact absurd HA.out (by simp [spec_CountGoalLists.l1])
           | succ k2 =>
            have H := HA.out; clear HA; simp only [spec_CountGoalLists.l1] at H
            by_cases c17 : x9_2 ≤ a1
            ·
             rw [if_pos c17] at H; have c17b0 : decide (x9_2 ≤ a1) = true := decide_eq_true c17; clear c17
             by_cases c18 : 0 ≤ x9_2
             ·
              rw [if_pos c18] at H; have c18b0 : decide (0 ≤ x9_2) = true := decide_eq_true c18; clear c18
              by_cases c19 : x9_2 < (x6_2.length : Int)
              ·
               rw [if_pos c19] at H; have c19b0 : decide (x9_2 < (x6_2.length : Int)) = true := decide_eq_true c19; clear c19; obtain ⟨ji20, hji20⟩ : ∃ j_ : Int, (wrap64 (x9_2 - (rd l0 x21_1))) = j_ := ⟨_, rfl⟩; replace H : (if 0 ≤ (ji20) then (if (ji20) < (x6_2.length : Int) then (spec_CountGoalLists.l1 k2 a1 (x6_2.set (x9_2 : Int).toNat (wrap64 ((rd x6_2 x9_2) + (rd x6_2 (ji20))))) (rd l0 x21_1) (wrap64 (x9_2 + 1)) l0 (l0.length : Int) x21_1) else (none)) else (none)) = some (r1, r2) := by first | (rw [hji20] at H; exact H) | (simp only [hji20] at H ⊢; exact H)
               have hji20w : (IntKind.i64.wrap (x9_2 - (rd l0 x21_1))) = ji20 := (i64_w _).trans hji20
               by_cases c21 : 0 ≤ (ji20)
               ·
                rw [if_pos c21] at H; have c21b0 : decide (0 ≤ (ji20)) = true := decide_eq_true c21; clear c21
                by_cases c22 : (ji20) < (x6_2.length : Int)
                ·
                 rw [if_pos c22] at H; have c22b0 : decide ((ji20) < (x6_2.length : Int)) = true := decide_eq_true c22; clear c22; obtain ⟨y270, hy270⟩ : ∃ y_ : List Int, y_ = (x6_2.set (x9_2 : Int).toNat (wrap64 ((rd x6_2 x9_2) + (rd x6_2 (ji20))))) := ⟨_, rfl⟩; replace H : (spec_CountGoalLists.l1 k2 a1 y270 (rd l0 x21_1) (wrap64 (x9_2 + 1)) l0 (l0.length : Int) x21_1) = some (r1, r2) := by first | (rw [hy270]; with_reducible exact H) | (have H2_ := (Option.bind_some _ _).symm.trans H; rw [hy270]; with_reducible exact H2_) | (have H2_ := (Option.bind_some _ _).symm.trans H; with_reducible exact H2_) | with_reducible exact H | (rw [hy270]; exact H) | exact H
                 have Ny270 := a_ hy270; clear hy270; have H' := a_ H; clear H
                 try go_wp2
                 have n0_ := a_ (Kd.R_drew HO_6.out); have n1_ := a_ (below_drew1 HB.out); clear HO_6; clear HB; have HO_6 := n0_; have HB := n1_; clear n0_ n1_; have p268 : 0 ≤ (x9_2 : Int) := of_decide_eq_true t0_; have q268 : x9_2 < (x6_2.length : Int) := of_decide_eq_true t0_; obtain ⟨ad268, e268, hx268_0⟩ := Kd.at_int (Kd.R_reads' HO_6.out).2.2 x9_2 p268 q268; obtain rfl : (⟨go9, 0, none⟩ : Addr) = ad268 := (by injection e268)
                 (first | simp only [add_plain] at hx268_0 | simp only [add_at] at hx268_0 | simp only [Addr.add, Nat.zero_add] at hx268_0 | skip)
                 replace p268 := eq_true p268; replace q268 := eq_true q268; have p269 : 0 ≤ ((ji20) : Int) := of_decide_eq_true t0_; have q269 : (ji20) < (x6_2.length : Int) := of_decide_eq_true t0_; obtain ⟨ad269, e269, hx269_0⟩ := Kd.at_int (Kd.R_reads' HO_6.out).2.2 (ji20) p269 q269; obtain rfl : (⟨go9, 0, none⟩ : Addr) = ad269 := (by injection e269)
                 (first | simp only [add_plain] at hx269_0 | simp only [add_at] at hx269_0 | simp only [Addr.add, Nat.zero_add] at hx269_0 | skip)
                 replace p269 := eq_true p269; replace q269 := eq_true q269; have p23 : 0 ≤ (x9_2 : Int) := of_decide_eq_true t0_; have q23 : (x9_2 : Int) < ((x6_2.length : Int) : Int) := of_decide_eq_true t0_; obtain ⟨hx23_0, hf23_0⟩ := Kd.R_celln 0 HO_6.out (x9_2 : Int) p23 q23; replace p23 := eq_true p23; replace q23 := eq_true q23; have HP25 := Kd.R_putn HO_6.out (x9_2 : Int) (wrap64 ((rd x6_2 x9_2) + (rd x6_2 (ji20)))); rw [← Ny270.out] at HP25; have HQ25 := a_ HP25; clear HP25
                 refine start_ (n := 13) (S := fun w' => w'.cell? ⟨go9, (x9_2).toNat, none⟩ = some (.int .i64 (rd x6_2 x9_2)) ∧ w'.cell? ⟨go9, ((ji20)).toNat, none⟩ = some (.int .i64 (rd x6_2 (ji20)))) (ds := [12]) #[false, false, false, false, false, false, false, false, false, false, false, false, false] t7_ rfl rfl ⟨hx268_0, hx269_0⟩ (fun hHeld => ?_); refine with_tabW spec_CountGoalLists.tab11 spec_CountGoalLists.bits11 (fun HT_ HW_ => ?_)
                 generalize wr.drew = w24 at HO_6 HB HQ25 hf23_0 hx23_0 hx268_0 hx269_0 hHeld ⊢
                 refine pure_ (i := 0) (N := some 31) (v := ?_) (a' := ?_) #[true, false, false, false, false, false, false, false, false, false, false, false, false] rfl rfl (any_of HT_.out t7_) (fun _ _ _ h => h) (Or.inl ⟨by rfl, ?_⟩) ?_ ?_
                 rotate_left
                 ·
                  intro w'
                  go_simp
                  with_reducible rfl
                 rotate_left
                 ·
                  simp only [Act.put, List.setIfInBounds_toArray, List.set_cons_zero, List.set_cons_succ, i64_w, i32_w]
                  rfl
                 refine pure_ (i := 1) (N := some 32) (v := ?_) (a' := ?_) #[true, true, false, false, false, false, false, false, false, false, false, false, false] rfl rfl (any_of HT_.out t7_) (fun _ _ _ h => h) (Or.inl ⟨by rfl, ?_⟩) ?_ ?_
                 rotate_left
                 ·
                  intro w'
                  go_simp
                  with_reducible rfl
                 rotate_left
                 ·
                  simp only [Act.put, List.setIfInBounds_toArray, List.set_cons_zero, List.set_cons_succ, i64_w, i32_w]
                  rfl
                 refine pure_ (i := 2) (N := some 33) (v := ?_) (a' := ?_) #[true, true, true, false, false, false, false, false, false, false, false, false, false] rfl rfl (any_of HT_.out t7_) (fun _ _ _ h => h) (Or.inl ⟨by rfl, ?_⟩) ?_ ?_
                 rotate_left
                 ·
                  intro w'
                  go_simp
                  with_reducible rfl
                 rotate_left
                 ·
                  simp only [Act.put, List.setIfInBounds_toArray, List.set_cons_zero, List.set_cons_succ, i64_w, i32_w]
                  rfl
                 refine pure_ (i := 4) (N := some 35) (v := ?_) (a' := ?_) #[true, true, true, false, true, false, false, false, false, false, false, false, false] rfl rfl (any_of HT_.out t7_) (fun _ _ _ h => h) (Or.inl ⟨by rfl, ?_⟩) ?_ ?_
                 rotate_left
                 ·
                  intro w'
                  go_simp
                  with_reducible rfl
                 rotate_left
                 ·
                  simp only [Act.put, List.setIfInBounds_toArray, List.set_cons_zero, List.set_cons_succ, i64_w, i32_w]
                  rfl
                 refine pure_ (i := 5) (N := some 36) (v := ?_) (a' := ?_) #[true, true, true, false, true, true, false, false, false, false, false, false, false] rfl rfl (any_of HT_.out t7_) (fun _ _ _ h => h) (Or.inl ⟨by rfl, ?_⟩) ?_ ?_
                 rotate_left
                 ·
                  intro w'
                  go_simp
                  with_reducible rfl
                 rotate_left
                 ·
                  simp only [Act.put, List.setIfInBounds_toArray, List.set_cons_zero, List.set_cons_succ, i64_w, i32_w]
                  rfl
                 refine pure_ (i := 6) (N := some 37) (v := ?_) (a' := ?_) #[true, true, true, false, true, true, true, false, false, false, false, false, false] rfl rfl (any_of HT_.out t7_) (fun _ _ _ h => h) (Or.inl ⟨by rfl, ?_⟩) ?_ ?_
                 rotate_left
                 ·
                  intro w'
                  go_simp
                  with_reducible rfl
                 rotate_left
                 ·
                  simp only [Act.put, List.setIfInBounds_toArray, List.set_cons_zero, List.set_cons_succ, i64_w, i32_w]
                  rfl
                 refine pure_ (i := 7) (N := some 38) (v := ?_) (a' := ?_) #[true, true, true, false, true, true, true, true, false, false, false, false, false] rfl rfl (any_of HT_.out t7_) (fun _ _ _ h => h) (Or.inl ⟨by rfl, ?_⟩) ?_ ?_
                 rotate_left
                 ·
                  intro w'
                  go_simp
                  with_reducible rfl
                 rotate_left
                 ·
                  simp only [Act.put, List.setIfInBounds_toArray, List.set_cons_zero, List.set_cons_succ, i64_w, i32_w]
                  rfl
                 refine pure_ (i := 8) (N := some 39) (v := ?_) (a' := ?_) #[true, true, true, false, true, true, true, true, true, false, false, false, false] rfl rfl (any_of HT_.out t7_) (fun _ _ _ h => h) (Or.inl ⟨by rfl, ?_⟩) ?_ ?_
                 rotate_left
                 ·
                  intro w'
                  go_simp
                  with_reducible rfl
                 rotate_left
                 ·
                  simp only [Act.put, List.setIfInBounds_toArray, List.set_cons_zero, List.set_cons_succ, i64_w, i32_w]
                  rfl
                 refine take_ (i := 3) (N := some 34) (v := ?_) (a' := ?_) #[true, true, true, true, true, true, true, true, true, false, false, false, false] rfl rfl (take_ofW HT_.out HW_.out t7_) (fun _ _ _ h => h) (Or.inl ⟨by rfl, ?_⟩) hHeld ?_ ?_
                 rotate_left
                 ·
                  rintro w' ⟨s0, s1⟩
                  go_simp
                  with_reducible rfl
                 rotate_left
                 ·
                  simp only [Act.put, List.setIfInBounds_toArray, List.set_cons_zero, List.set_cons_succ, i64_w, i32_w]
                  rfl
                 refine take_ (i := 9) (N := some 40) (v := ?_) (a' := ?_) #[true, true, true, true, true, true, true, true, true, true, false, false, false] rfl rfl (take_ofW HT_.out HW_.out t7_) (fun _ _ _ h => h) (Or.inl ⟨by rfl, ?_⟩) hHeld ?_ ?_
                 rotate_left
                 ·
                  rintro w' ⟨s0, s1⟩
                  go_simp
                  with_reducible rfl
                 rotate_left
                 ·
                  simp only [Act.put, List.setIfInBounds_toArray, List.set_cons_zero, List.set_cons_succ, i64_w, i32_w]
                  rfl
                 refine pure_ (i := 10) (N := some 41) (v := ?_) (a' := ?_) #[true, true, true, true, true, true, true, true, true, true, true, false, false] rfl rfl (any_of HT_.out t7_) (fun _ _ _ h => h) (Or.inl ⟨by rfl, ?_⟩) ?_ ?_
                 rotate_left
                 ·
                  intro w'
                  go_simp
                  with_reducible rfl
                 rotate_left
                 ·
                  simp only [Act.put, List.setIfInBounds_toArray, List.set_cons_zero, List.set_cons_succ, i64_w, i32_w]
                  rfl
                 refine pure_ (i := 11) (N := some 42) (v := ?_) (a' := ?_) #[true, true, true, true, true, true, true, true, true, true, true, true, false] rfl rfl (any_of HT_.out t7_) (fun _ _ _ h => h) (Or.inl ⟨by rfl, ?_⟩) ?_ ?_
                 rotate_left
                 ·
                  intro w'
                  go_simp
                  with_reducible rfl
                 rotate_left
                 ·
                  simp only [Act.put, List.setIfInBounds_toArray, List.set_cons_zero, List.set_cons_succ, i64_w, i32_w]
                  rfl
                 refine last_ (i := 12) (N := none) #[true, true, true, true, true, true, true, true, true, true, true, true, true] rfl rfl (one_of HT_.out t7_) t19_ (fun K hK => ?_)
                 refine skip_ (w1 := ?_) (by rfl) rfl ?_ ?_
                 rotate_left
                 ·
                  go_simp
                  rfl
                 refine hK.out _ _ ?_
                 clear hK K
                 refine done_ (done_of HT_.out t7_) ?_
                 try go_wp2
                 (try simp only [← hl6_2])
                 go_roundg k2
                 case measure => have := HK1.out; have := HK2.out; omega
                 case rel => exact ⟨(y270), (wrap64 (x9_2 + 1)), t2_, H', ⟨t9_⟩, ⟨t23_⟩, ⟨t14_⟩⟩
                ·
                 rw [if_neg c22] at H
                 exact absurd H t8_
               ·
                rw [if_neg c21] at H
                exact absurd H t8_
              ·
               rw [if_neg c19] at H
               exact absurd H t8_
             ·
              rw [if_neg c18] at H
              exact absurd H t8_
            ·
             rw [if_neg c17] at H; have c17b0 : decide (x9_2 ≤ a1) = false := decide_eq_false c17; clear c17; have H' := a_ H; clear H
             go_wp2
             (try simp only [← hl6_1, ← hl6_2])
             go_roundg k2
             case measure => have := HK1.out; have := HK2.out; omega
             case rel => exact ⟨(x6_2), (wrap64 (x21_1 + 1)), t2_, H', ⟨t9_⟩, ⟨t12_⟩, ⟨L_ HB.out (Nat.le_refl _) (Nat.le_refl _) (Nat.le_refl _)⟩⟩
         ·
          rw [if_neg c16] at H
          exact absurd H t8_
        ·
         rw [if_neg c15] at H
         exact absurd H t8_
       ·
        rw [if_neg c14] at H; have c14b0 : decide (x21_1 < (l0.length : Int)) = false := decide_eq_false c14; clear c14
        by_cases c26 : 0 ≤ a1
        ·
         rw [if_pos c26] at H; have c26b0 : decide (0 ≤ a1) = true := decide_eq_true c26; clear c26
         by_cases c27 : a1 < (x6_1.length : Int)
         ·
          rw [if_pos c27] at H; have c27b0 : decide (a1 < (x6_1.length : Int)) = true := decide_eq_true c27; clear c27; simp only [Option.some.injEq, Prod.mk.injEq] at H; obtain ⟨rfl, rfl⟩ := H; have p266 : 0 ≤ (a1 : Int) := of_decide_eq_true t0_; have q266 : a1 < (x6_1.length : Int) := of_decide_eq_true t0_; obtain ⟨ad266, e266, hx266_0⟩ := Kd.at_int (Kd.R_reads' HO_6.out).2.2 a1 p266 q266; obtain rfl : (⟨go9, 0, none⟩ : Addr) = ad266 := (by injection e266)
          (first | simp only [add_plain] at hx266_0 | simp only [add_at] at hx266_0 | simp only [Addr.add, Nat.zero_add] at hx266_0 | skip)
          replace p266 := eq_true p266; replace q266 := eq_true q266
          go_wp2
          go_ret2
          exact ⟨by first | rfl | (simp [errW_none, errW_some] <;> rfl) | (simp only [← hji5]; first | rfl | (simp [errW_none, errW_some] <;> rfl)) | (simp [*, errW_none, errW_some] <;> rfl), by repeat (first | (with_reducible first | exact HB.out | apply below_alloc | apply pw_below_drewN | apply below_drew1) | exact HB.out)⟩
         ·
          rw [if_neg c27] at H
          exact absurd H t8_
        ·
         rw [if_neg c26] at H
         exact absurd H t8_
    ·
     rw [if_neg c8] at H
     exact absurd H t8_
   ·
    rw [if_neg c7] at H
    exact absurd H t8_
  ·
   rw [if_neg c6] at H
   exact absurd H t8_
 ·
  replace c4 := Bool.eq_false_iff.mpr c4; subst c4; have H1 : (some (0, false)) = some (r1, r2) := by rw [if_neg (show ¬ (false = true) by decide)] at H; exact H
  clear H; have H := H1; clear H1; simp only [Option.some.injEq, Prod.mk.injEq] at H; obtain ⟨rfl, rfl⟩ := H
  go_enter Tryz.func13, Tryz.ntmps13
  go_wp2_with (first | ((with_reducible refine gate_callee (f := 35) rfl ?_); refine goesL_ (some 12) rfl rfl Tryz.func35 t7_ rfl #[.slice A0 l0.length c0, .int .i64 a1] rfl (by (try simp only [m1_, m2_, m3_]); first | done | rfl) ?_; (with_reducible refine (spec_goAsked.calls k _ _ l0 a1 false _ ?side1 ?side2 A3.out).mono ?_); (case side1 => repeat (first | exact HR0.out | (with_reducible refine Kd.C_alloc ?_ _) | (with_reducible refine Kd.C_drewN ?_ _) | (with_reducible refine Kd.C_drew ?_))); (case side2 => exact HC0.out); rintro e w' ⟨rfl, ⟨nd, rfl⟩⟩; refine ⟨_, rfl, ?_⟩))
  go_ret2
  exact ⟨by first | rfl | (simp [errW_none, errW_some] <;> rfl) | (simp [*, errW_none, errW_some] <;> rfl), by repeat (first | (with_reducible first | exact HB.out | apply below_alloc | apply pw_below_drewN | apply below_drew1) | exact HB.out)⟩
def impl_few.f (a0 : Int) (a1 : Int) : Option (Int × Bool) := if a0 > a1 then (some (0, false)) else (some (a0, true))
set_option maxHeartbeats 8000000 in
set_option maxRecDepth 100000 in
theorem impl_few.calls (a0 : Int) (a1 : Int) (r1 : Int) (r2 : Bool) (w : World) (h : impl_few.f a0 a1 = some (r1, r2)) :
  Calls Tryz.prog 40 #[.int .i64 a0, .int .i64 a1] w fun e w' => e = .returned (.tuple #[.int .i64 r1, .bool r2]) ∧ Drawn0 w w' := by
 have H : (if a0 > a1 then (some (0, false)) else (some (a0, true))) = some (r1, r2) := h; clear h
 by_cases c3 : a0 > a1
 ·
  rw [if_pos c3] at H; have c3b0 : decide (a1 < a0) = true := decide_eq_true c3; clear c3; simp only [Option.some.injEq, Prod.mk.injEq] at H; obtain ⟨rfl, rfl⟩ := H
  go_enter Tryz.func40, Tryz.ntmps40
  go_wp2
  go_ret2
  exact ⟨by first | rfl | (simp; done) | (simp [*]; done), by repeat (first | exact Drawn0.refl _ | apply Drawn0.step)⟩
 ·
  rw [if_neg c3] at H; have c3b0 : decide (a1 < a0) = false := decide_eq_false c3; clear c3; simp only [Option.some.injEq, Prod.mk.injEq] at H; obtain ⟨rfl, rfl⟩ := H
  go_enter Tryz.func40, Tryz.ntmps40
  go_wp2
  go_ret2
  exact ⟨by first | rfl | (simp; done) | (simp [*]; done), by repeat (first | exact Drawn0.refl _ | apply Drawn0.step)⟩
end Go.Proofs.YthcbaogbncakdaaGreatDoor.QFnGoalsReached
