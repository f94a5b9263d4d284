/- Functions of this law, printed out of the translation: what each computes, and that its code answers so. No condition. -/
import Derived.Test.YtacmfgbeaoalfaacQFnDartsFinishx0
import Derived.Test.YtacmfgbeaoalfaacQFnDartsFinishx2
import Derived.Test.YtacmfgbeaoalfaacQFnDartsFinishx3
import Derived.Test.YtacmfgbeaoalfaacQFnDartsFinishx6
import Derived.Test.YtacmfgbeaoalfaacGBrd
import Derived.Test.YtacmfgbeaoalfaacGQ
namespace Go.Proofs.Ytacmfgbeaoalfaa.QFnDartsFinish
open Go.RowKit Go.Proofs.YtacmfgbeaoalfaaW.PrintWords Go.Proofs.YtacmfgbeaoalfaaW.PrintLast Go.Proofs.YtacmfgbeaoalfaaW.PrintMore Go.Proofs.Ytacmfgbeaoalfaa.Sh
attribute [local go_sem] max2_int min2_int max_two min_two max_three min_three max_four min_four
set_option linter.unusedVariables false
set_option linter.unusedSimpArgs false
def spec_CanFinish.f (k : Nat) (a0 : Int) (a1 : Int) : Option (Bool × Bool) := (spec_daLeft.f a0).bind fun t247 => (if t247 = true then ((spec_daDarts.f a1).bind fun t248 => (if t248 = true then ((spec_daCan.f k a0 a1).bind fun t249 => (some (t249, true))) else (some (false, false)))) else (some (false, false)))
set_option maxHeartbeats 8000000 in
set_option maxRecDepth 100000 in
theorem spec_CanFinish.calls (k : Nat) (a0 : Int) (a1 : Int) (r1 : Bool) (r2 : Bool) (w : World) (h : spec_CanFinish.f k a0 a1 = some (r1, r2)) :
  Calls Try.prog 9 #[.int .i64 a0, .int .i64 a1] w fun e w' => e = .returned (.tuple #[.bool r1, .bool r2]) ∧ Below w.heap.size w w' := by
 have HB := a_ (Below.refl w.heap.size w); have H : ((spec_daLeft.f a0).bind fun t247 => (if t247 = true then ((spec_daDarts.f a1).bind fun t248 => (if t248 = true then ((spec_daCan.f k a0 a1).bind fun t249 => (some (t249, true))) else (some (false, false)))) else (some (false, false)))) = some (r1, r2) := h; clear h; replace H := Option.bind_eq_some_iff.mp H; obtain ⟨t247, A30, H⟩ := H; replace H : (if t247 = true then ((spec_daDarts.f a1).bind fun t248 => (if t248 = true then ((spec_daCan.f k a0 a1).bind fun t249 => (some (t249, true))) else (some (false, false)))) else (some (false, false))) = some (r1, r2) := H; have A3 := a_ A30; clear A30
 by_cases c4 : t247 = true
 ·
  subst c4; have H1 : ((spec_daDarts.f a1).bind fun t248 => (if t248 = true then ((spec_daCan.f k a0 a1).bind fun t249 => (some (t249, true))) else (some (false, false)))) = some (r1, r2) := by rw [if_pos rfl] at H; exact H
  clear H; have H := H1; clear H1; replace H := Option.bind_eq_some_iff.mp H; obtain ⟨t248, A50, H⟩ := H; replace H : (if t248 = true then ((spec_daCan.f k a0 a1).bind fun t249 => (some (t249, true))) else (some (false, false))) = some (r1, r2) := H; have A5 := a_ A50; clear A50
  by_cases c6 : t248 = true
  ·
   subst c6; have H1 : ((spec_daCan.f k a0 a1).bind fun t249 => (some (t249, true))) = some (r1, r2) := by rw [if_pos rfl] at H; exact H
   clear H; have H := H1; clear H1; replace H := Option.bind_eq_some_iff.mp H; obtain ⟨t249, A70, H⟩ := H; replace H : (some (t249, true)) = some (r1, r2) := H; have A7 := a_ A70; clear A70; simp only [Option.some.injEq, Prod.mk.injEq] at H; obtain ⟨rfl, rfl⟩ := H
   go_enter Try.func9, Try.ntmps9
   go_wp2_with (first | ((with_reducible refine gate_callee (f := 37) rfl ?_); refine goesL_ (some 7) rfl rfl Try.func37 t1_ rfl #[.int .i64 a0] rfl (by (try simp only [m1_, m2_, m3_]); first | done | rfl) ?_; (with_reducible refine (spec_daLeft.calls a0 true _ A3.out).mono ?_); rintro e w' ⟨rfl, ⟨nd, rfl⟩⟩; refine ⟨_, rfl, ?_⟩) | (go_at_call 38; (with_reducible refine (spec_daDarts.calls a1 true _ A5.out).mono ?_); rintro e w' ⟨rfl, ⟨nd, rfl⟩⟩) | ((with_reducible refine gate_callee (f := 43) rfl ?_); refine goesL_ (some 16) rfl rfl Try.func43 t1_ rfl #[.int .i64 a0, .int .i64 a1] rfl (by (try simp only [m1_, m2_, m3_]); first | done | rfl) ?_; (with_reducible refine (spec_daCan.calls k a0 a1 t249 _ A7.out).mono ?_); rintro e w8 ⟨rfl, hb⟩; refine ⟨_, rfl, ?_⟩; have n0_ := a_ (below_step (L_ HB.out (Nat.le_refl _) (Nat.le_refl _) (Nat.le_refl _)) hb); clear HB; have HB := n0_; clear n0_; (try clear hb); (try clear hb2); (try clear hk); (try clear hi)))
   go_ret2
   exact ⟨by first | rfl | (simp [errW_none, errW_some] <;> rfl) | (simp [*, errW_none, errW_some] <;> rfl), by repeat (first | (with_reducible first | exact HB.out | apply below_alloc | apply pw_below_drewN | apply below_drew1) | exact HB.out)⟩
  ·
   replace c6 := Bool.eq_false_iff.mpr c6; subst c6; have H1 : (some (false, false)) = some (r1, r2) := by rw [if_neg (show ¬ (false = true) by decide)] at H; exact H
   clear H; have H := H1; clear H1; simp only [Option.some.injEq, Prod.mk.injEq] at H; obtain ⟨rfl, rfl⟩ := H
   go_enter Try.func9, Try.ntmps9
   go_wp2_with (first | ((with_reducible refine gate_callee (f := 37) rfl ?_); refine goesL_ (some 7) rfl rfl Try.func37 t1_ rfl #[.int .i64 a0] rfl (by (try simp only [m1_, m2_, m3_]); first | done | rfl) ?_; (with_reducible refine (spec_daLeft.calls a0 true _ A3.out).mono ?_); rintro e w' ⟨rfl, ⟨nd, rfl⟩⟩; refine ⟨_, rfl, ?_⟩) | (go_at_call 38; (with_reducible refine (spec_daDarts.calls a1 false _ A5.out).mono ?_); rintro e w' ⟨rfl, ⟨nd, rfl⟩⟩))
   go_ret2
   exact ⟨by first | rfl | (simp [errW_none, errW_some] <;> rfl) | (simp [*, errW_none, errW_some] <;> rfl), by repeat (first | (with_reducible first | exact HB.out | apply below_alloc | apply pw_below_drewN | apply below_drew1) | exact HB.out)⟩
 ·
  replace c4 := Bool.eq_false_iff.mpr c4; subst c4; have H1 : (some (false, false)) = some (r1, r2) := by rw [if_neg (show ¬ (false = true) by decide)] at H; exact H
  clear H; have H := H1; clear H1; simp only [Option.some.injEq, Prod.mk.injEq] at H; obtain ⟨rfl, rfl⟩ := H
  go_enter Try.func9, Try.ntmps9
  go_wp2_with (first | ((with_reducible refine gate_callee (f := 37) rfl ?_); refine goesL_ (some 7) rfl rfl Try.func37 t1_ rfl #[.int .i64 a0] rfl (by (try simp only [m1_, m2_, m3_]); first | done | rfl) ?_; (with_reducible refine (spec_daLeft.calls a0 false _ A3.out).mono ?_); rintro e w' ⟨rfl, ⟨nd, rfl⟩⟩; refine ⟨_, rfl, ?_⟩))
  go_ret2
  exact ⟨by first | rfl | (simp [errW_none, errW_some] <;> rfl) | (simp [*, errW_none, errW_some] <;> rfl), by repeat (first | (with_reducible first | exact HB.out | apply below_alloc | apply pw_below_drewN | apply below_drew1) | exact HB.out)⟩
def impl_at.f (l0 : List Int) (a1 : Int) : Option (Int) := if a1 < (l0.length : Int) then (if 0 ≤ a1 then (some (rd l0 a1)) else (none)) else (some 0)
set_option maxHeartbeats 8000000 in
set_option maxRecDepth 100000 in
theorem impl_at.calls (A0 : Option Addr) (c0 : Nat) (l0 : List Int) (a1 : Int) (r : Int) (w : World) (hr0 : Kd.C (Kd.int .i64) w A0 l0.length l0) (hc0 : l0.length ≤ c0) (h : impl_at.f l0 a1 = some r) :
  Calls Try.prog 44 #[.slice A0 l0.length c0, .int .i64 a1] w fun e w' => e = .returned (.int .i64 r) ∧ Drawn0 w w' := by
 have HR0 := a_ hr0; have HC0 := a_ hc0; clear hr0 hc0; have H : (if a1 < (l0.length : Int) then (if 0 ≤ a1 then (some (rd l0 a1)) else (none)) else (some 0)) = some r := h; clear h
 by_cases c3 : a1 < (l0.length : Int)
 ·
  rw [if_pos c3] at H; have c3b0 : decide (a1 < (l0.length : Int)) = true := decide_eq_true c3; clear c3
  by_cases c4 : 0 ≤ a1
  ·
   rw [if_pos c4] at H; have c4b0 : decide (0 ≤ a1) = true := decide_eq_true c4; clear c4; obtain rfl := Option.some.inj H; have p250 : 0 ≤ (a1 : Int) := of_decide_eq_true t0_; have q250 : a1 < (l0.length : Int) := of_decide_eq_true t0_; obtain ⟨ad250, e250, hx250_0⟩ := Kd.at_int HR0.out a1 p250 q250
   cases e250
   replace p250 := eq_true p250; replace q250 := eq_true q250
   go_enter Try.func44, Try.ntmps44
   go_wp2
   go_ret
   exact ⟨by first | rfl | (simp; done) | (simp [*]; done), by repeat (first | exact Drawn0.refl _ | apply Drawn0.step)⟩
  ·
   rw [if_neg c4] at H
   exact absurd H t31_
 ·
  rw [if_neg c3] at H; have c3b0 : decide (a1 < (l0.length : Int)) = false := decide_eq_false c3; clear c3; obtain rfl := Option.some.inj H
  go_enter Try.func44, Try.ntmps44
  go_wp2
  go_ret
  exact ⟨by first | rfl | (simp; done) | (simp [*]; done), by repeat (first | exact Drawn0.refl _ | apply Drawn0.step)⟩
mutual
def impl_waysTo.l0 : Nat → Bool → List Int → Int → Int → Option (List Int)
 | 0, _, _, _, _ => none
 | k + 1, x1, x5, x14, x15 => if x15 < x14 then (if 181 ≤ 35184372088832 then ((impl_board.f).bind fun t258 => (impl_waysTo.l1 k x1 x5 x15 (List.replicate 181 0) x14 x15 t258 (t258.length : Int) 0)) else (none)) else (some x5)
def impl_waysTo.l1 : Nat → Bool → List Int → Int → List Int → Int → Int → List (S43) → Int → Int → Option (List Int)
 | 0, _, _, _, _, _, _, _, _, _ => none
 | k + 1, x1, x5, x6, x7, x14, x15, x19, x20, x21 => if x21 < x20 then (if 0 ≤ x21 then (if x21 < (x19.length : Int) then (if x1 = true then (if x6 = 0 then (impl_waysTo.j2 k x1 x5 x6 x7 x14 x15 x19 x20 x21 (((rd_T43 x19 x21).f1) != 2) ((rd_T43 x19 x21).f0) ((rd_T43 x19 x21).f1)) else (impl_waysTo.j2 k x1 x5 x6 x7 x14 x15 x19 x20 x21 false ((rd_T43 x19 x21).f0) ((rd_T43 x19 x21).f1))) else (impl_waysTo.j2 k x1 x5 x6 x7 x14 x15 x19 x20 x21 false ((rd_T43 x19 x21).f0) ((rd_T43 x19 x21).f1))) else (none)) else (none)) else (impl_waysTo.l0 k x1 x7 x14 (wrap64 (x15 + 1)))
def impl_waysTo.j2 : Nat → Bool → List Int → Int → List Int → Int → Int → List (S43) → Int → Int → Bool → Int → Int → Option (List Int)
 | 0, _, _, _, _, _, _, _, _, _, _, _, _ => none
 | k + 1, x1, x5, x6, x7, x14, x15, x19, x20, x21, x34, x263000, x263001 => if x34 = true then (impl_waysTo.l1 k x1 x5 x6 x7 x14 x15 x19 x20 (wrap64 (x21 + 1))) else ((impl_Dart_score.f x263000 x263001).bind fun t263 => (impl_waysTo.l2 k x1 x5 x6 x7 x14 x15 x19 x20 x21 (wrap64 (181 - t263)) 0 x263000 x263001))
def impl_waysTo.l2 : Nat → Bool → List Int → Int → List Int → Int → Int → List (S43) → Int → Int → Int → Int → Int → Int → Option (List Int)
 | 0, _, _, _, _, _, _, _, _, _, _, _, _, _ => none
 | k + 1, x1, x5, x6, x7, x14, x15, x19, x20, x21, x37, x38, x263000, x263001 => if x38 < x37 then ((impl_Dart_score.f x263000 x263001).bind fun t264 => (if 0 ≤ (wrap64 (x38 + t264)) then (if (wrap64 (x38 + t264)) < (x7.length : Int) then (if 0 ≤ x38 then (if x38 < (x5.length : Int) then (impl_waysTo.l2 k x1 x5 x6 (x7.set ((wrap64 (x38 + t264)) : Int).toNat (wrap64 ((rd x7 (wrap64 (x38 + t264))) + (rd x5 x38)))) x14 x15 x19 x20 x21 x37 (wrap64 (x38 + 1)) x263000 x263001) else (none)) else (none)) else (none)) else (none))) else (impl_waysTo.l1 k x1 x5 x6 x7 x14 x15 x19 x20 (wrap64 (x21 + 1)))
end
def impl_waysTo.f (k : Nat) (a0 : Int) (a1 : Bool) : Option (List Int) := if 181 ≤ 35184372088832 then ((some (List.replicate 181 0 : List Int)).bind fun y251 => (if 0 < (y251.length : Int) then (impl_waysTo.l0 k a1 (y251.set (0 : Int).toNat 1) a0 0) else (none))) else (none)
def impl_waysTo.T14 : Bool × List (List Nat × List Nat) := (true, [([], []), ([], []), ([], []), ([2], [2]), ([1, 3], [1, 3]), ([0, 4], [0, 4]), ([5], [5]), ([], []), ([], []), ([7, 8], [7, 8]), ([9], [9]), ([6, 10], [6, 10]), ([0, 4, 0, 1, 2, 3, 4, 5, 6, 7, 8, 9, 10, 11], [0, 4]), ([12, 11, 3, 0, 1, 2, 3, 4, 5, 6, 7, 8, 9, 10, 11], [11, 12])])
def impl_waysTo.B14 : List Nat := [0, 0, 0, 4, 14, 31, 63, 0, 0, 384, 896, 2047, 4095, 8191]
theorem impl_waysTo.tab14 : rtab .any (opsOf Try.f45 14) = impl_waysTo.T14 := by kernel_rfl
theorem impl_waysTo.bits14 : waitsOk impl_waysTo.T14.2 impl_waysTo.B14 = true := by kernel_rfl
set_option maxHeartbeats 8000000 in
set_option maxRecDepth 100000 in
theorem impl_waysTo.calls (k : Nat) (a0 : Int) (a1 : Bool) (r : List Int) (w : World) (h : impl_waysTo.f k a0 a1 = some r) :
  Calls Try.prog 45 #[.int .i64 a0, .bool a1] w fun e w' => ∃ v0_ : Value, e = .returned (v0_) ∧ Kd.R (Kd.int .i64) 3 w' w.heap.size (fun _ => True) v0_ r ∧ Below w.heap.size w w' := by
 have hu43 := Try.underlying43; have HB := a_ (Below.refl w.heap.size w); have H : (if 181 ≤ 35184372088832 then ((some (List.replicate 181 0 : List Int)).bind fun y251 => (if 0 < (y251.length : Int) then (impl_waysTo.l0 k a1 (y251.set (0 : Int).toNat 1) a0 0) else (none))) else (none)) = some r := h; clear h
 by_cases c3 : 181 ≤ 35184372088832
 ·
  rw [if_pos c3] at H; have c3b0 := eq_true c3; have c3b1 : decide (181 ≤ 35184372088832) = true := decide_eq_true c3; clear c3; obtain ⟨y251, hy251⟩ : ∃ y_ : List Int, y_ = (List.replicate 181 0) := ⟨_, rfl⟩; replace H : (if 0 < (y251.length : Int) then (impl_waysTo.l0 k a1 (y251.set (0 : Int).toNat 1) a0 0) else (none)) = some r := by first | (rw [hy251]; with_reducible exact H) | (have H2_ := (Option.bind_some _ _).symm.trans H; rw [hy251]; with_reducible exact H2_) | (have H2_ := (Option.bind_some _ _).symm.trans H; with_reducible exact H2_) | with_reducible exact H | (rw [hy251]; exact H) | exact H
  have Ny251 := a_ hy251; clear hy251
  by_cases c4 : 0 < (y251.length : Int)
  ·
   rw [if_pos c4] at H; have c4b0 : decide (0 < (y251.length : Int)) = true := decide_eq_true c4; have c4b1 : decide (0 < y251.length) = true := decide_eq_true t46_; clear c4; obtain ⟨y254, hy254⟩ : ∃ y_ : List Int, y_ = (y251.set (0 : Int).toNat 1) := ⟨_, rfl⟩; replace H : (impl_waysTo.l0 k a1 y254 a0 0) = some r := by first | (rw [hy254]; with_reducible exact H) | (have H2_ := (Option.bind_some _ _).symm.trans H; rw [hy254]; with_reducible exact H2_) | (have H2_ := (Option.bind_some _ _).symm.trans H; with_reducible exact H2_) | with_reducible exact H | (rw [hy254]; exact H) | exact H
   have Ny254 := a_ hy254; clear hy254; have H' := a_ H; clear H
   go_enter Try.func45, Try.ntmps45
   go_wp2_with (first | ((with_reducible refine gate_dst (N := 11) rfl ?_); refine Kd.R_make (Kd.int .i64) _ 3 rfl (N := 11) rfl 33 _ _ rfl 181 rfl rfl Try.underlying33 (.int .i64 0) 8 info3 rfl t29_ t46_ 0 (ok := fun _ => True) (okp := fun _ => True) rfl (fun _ hk => hk) trivial t46_ t46_ (Below.refl _ _) (Nat.le_refl _) ?_; intro v252 w6 ho7 hb hg_ hnew_; clear hg_ hnew_; (first | rw [← Ny251.out] at ho7 | (simp only [Int.reduceToNat] at ho7; rw [← Ny251.out] at ho7)); have n0_ := a_ (Kd.R_lower ho7 (below_size (L_ HB.out (Nat.le_refl _) (Nat.le_refl _) (Nat.le_refl _)))); have n1_ := a_ (below_step (L_ HB.out (Nat.le_refl _) (Nat.le_refl _) (Nat.le_refl _)) hb); clear HB; have HO253 := n0_; have HB := n1_; clear n0_ n1_; clear hb ho7; have p5 : 0 ≤ (0 : Int) := t46_; have q5 : (0 : Int) < ((y251.length : Int) : Int) := of_decide_eq_true t0_; have qi5 : (0 < y251.length) = True := eq_true t46_; obtain ⟨go5, co5, eo5, gb5, gl5, cl5, HG5⟩ := Kd.R_form HO253.out t46_; (first | cases eo5 | (injection eo5 with ea_ en_ ec_; (first | subst ea_ | (injection ea_ with ea_; subst ea_)); subst ec_; clear en_)); have GB5 := a_ gb5; have GG5 := a_ HG5; clear gb5 gl5 HG5; obtain ⟨hx5_0, hf5_0⟩ := Kd.R_celln 0 HO253.out (0 : Int) p5 q5; (try rw [show ((0 : Int)).toNat = 0 from rfl] at hx5_0); (try simp only [Nat.reduceMul, Nat.zero_mul, Nat.zero_add, Nat.reduceAdd] at hx5_0); (try rw [show ((0 : Int)).toNat = 0 from rfl] at hf5_0); (try simp only [Nat.reduceMul, Nat.zero_mul, Nat.zero_add, Nat.reduceAdd] at hf5_0); replace p5 := eq_true p5; replace q5 := eq_true q5; obtain ⟨hy8_, hz8_⟩ := Kd.R_celln 0 HO253.out (0 : Int) t46_ (of_decide_eq_true t0_); (try simp only [Int.reduceToNat, Int.toNat_zero, Int.toNat_ofNat, Nat.reduceMul, Nat.zero_mul, Nat.zero_add] at hy8_ hz8_); (try rw [show ((0 : Int)).toNat = 0 from rfl] at hy8_); (try rw [show ((0 : Int)).toNat = 0 from rfl] at hz8_); have HP8 := Kd.R_putg HO253.out (0 : Int) 1) | ((with_reducible refine gate_store (t := 3) (p := 13) rfl ?_); refine store_event (t := 3) (p := 13) (v := ?vo_w9) (w1 := (w6.setCell ⟨go5, (0 : Int).toNat, none⟩ (.int .i64 1))) ?hg ?ho ?hn ?hr ?_; (case ho => rfl); (case hg => rfl); (case hn => rfl); (case hr => first | (go_simp; done) | (go_simp; rfl)); intro w9 hw; have hg : w6.grownBy w9 (some go5) := (by rw [hw]; exact HP8.2); have hp_ : Kd.R (Kd.int .i64) 3 w9 w.heap.size (fun _ => True) (.slice (some ⟨go5, 0, none⟩) y251.length co5) y254 := (by rw [hw, Ny254.out]; exact HP8.1); clear HP8; have n0_ := a_ (hp_); have n1_ := a_ ((by rw [hw]; exact below_set (HB.out) GB5.out : Below w.heap.size w w9)); clear HO253; clear HB; have HO253 := n0_; have HB := n1_; clear n0_ n1_; clear hg hw hp_))
   go_loopg [5, 15] k (fun kq v5 v15 w' => ∃ (x5_1 : List Int) (x15_1 : Int), v15 = .int .i64 x15_1 ∧ Aside0 (impl_waysTo.l0 kq a1 x5_1 a0 x15_1 = some r) ∧ Aside0 (kq ≤ k) ∧ Aside0 (Kd.R (Kd.int .i64) 3 w' w.heap.size (fun _ => True) v5 x5_1) ∧ Aside0 (Below w.heap.size w w'))
   case atStart => exact ⟨(y254), (0), t2_, H', ⟨Nat.le_refl _⟩, ⟨R_ HO253.out⟩, ⟨L_ HB.out (Nat.le_refl _) (Nat.le_refl _) (Nat.le_refl _)⟩⟩
   case round =>
    clear H'; obtain ⟨x5_1, x15_1, rfl, HA, HK1, HO_5, HB⟩ := hrel
    cases gk with
    | zero => exact absurd HA.out (by simp [impl_waysTo.l0])
    | succ k1 =>
     have H := HA.out; clear HA; simp only [impl_waysTo.l0] at H
     by_cases c10 : x15_1 < a0
     ·
      rw [if_pos c10] at H; have c10b0 : decide (x15_1 < a0) = true := decide_eq_true c10; clear c10
      by_cases c11 : 181 ≤ 35184372088832
      ·
       rw [if_pos c11] at H; have c11b0 := eq_true c11; have c11b1 : decide (181 ≤ 35184372088832) = true := decide_eq_true c11; clear c11; obtain ⟨y255, hy255⟩ : ∃ y_ : List Int, y_ = (List.replicate 181 0) := ⟨_, rfl⟩; replace H : ((impl_board.f).bind fun t258 => (impl_waysTo.l1 k1 a1 x5_1 x15_1 y255 a0 x15_1 t258 (t258.length : Int) 0)) = some r := by first | (rw [hy255]; with_reducible exact H) | (have H2_ := (Option.bind_some _ _).symm.trans H; rw [hy255]; with_reducible exact H2_) | (have H2_ := (Option.bind_some _ _).symm.trans H; with_reducible exact H2_) | with_reducible exact H | (rw [hy255]; exact H) | exact H
       have Ny255 := a_ hy255; clear hy255; replace H := Option.bind_eq_some_iff.mp H; obtain ⟨t258, A120, H⟩ := H; replace H : (impl_waysTo.l1 k1 a1 x5_1 x15_1 y255 a0 x15_1 t258 (t258.length : Int) 0) = some r := H; have A12 := a_ A120; clear A120; have H' := a_ H; clear H
       go_wp2_with (first | ((with_reducible refine gate_dst (N := 18) rfl ?_); refine Kd.R_make (Kd.int .i64) _ 3 rfl (N := 18) rfl 33 _ _ rfl 181 rfl rfl Try.underlying33 (.int .i64 0) 8 info3 rfl t29_ t46_ 0 (ok := fun _ => True) (okp := fun _ => True) rfl (fun _ hk => hk) trivial t46_ t46_ (Below.refl _ _) (Nat.le_refl _) ?_; intro v256 w13 ho14 hb hg_ hnew_; clear hg_ hnew_; (first | rw [← Ny255.out] at ho14 | (simp only [Int.reduceToNat] at ho14; rw [← Ny255.out] at ho14)); have n0_ := a_ (Kd.R_elder' (R_ HO_5.out) (Kd.R_base ho14) hb); have n1_ := a_ (Kd.R_lower (Kd.R_new' ho14 (Kd.R_lt (R_ HO_5.out))) (below_size (L_ HB.out (Nat.le_refl _) (Nat.le_refl _) (Nat.le_refl _)))); have n2_ := a_ (below_step (L_ HB.out (Nat.le_refl _) (Nat.le_refl _) (Nat.le_refl _)) hb); clear HO_5; clear HB; have HO_5 := n0_; have HO257 := n1_; have HB := n2_; clear n0_ n1_ n2_; clear hb ho14) | ((with_reducible refine gate_callee (f := 35) rfl ?_); refine goesL_ (some 19) rfl rfl Try.func35 t1_ rfl #[] rfl t28_ ?_; (with_reducible refine (impl_board.calls  t258 _ A12.out).mono ?_); rintro e w15 ⟨v259, rfl, ho0, hb⟩; refine ⟨_, rfl, ?_⟩; have n0_ := a_ (Kd.R_below (R_ HO_5.out) hb); have n1_ := a_ (Kd.R_below (R_ HO257.out) hb); have n2_ := a_ (Kd.R_lower ho0 (below_size (L_ HB.out (Nat.le_refl _) (Nat.le_refl _) (Nat.le_refl _)))); have n3_ := a_ (below_step (L_ HB.out (Nat.le_refl _) (Nat.le_refl _) (Nat.le_refl _)) hb); clear HO_5; clear HO257; clear HB; have HO_5 := n0_; have HO257 := n1_; have HO260 := n2_; have HB := n3_; clear n0_ n1_ n2_ n3_; (try clear hb); (try clear hb2); (try clear hk); (try clear hi); (try clear ho0); obtain ⟨Ao16, co16, eo16⟩ := Kd.R_slice HO260.out; subst eo16))
       go_loopg [21] k1 (fun kq v21 w' => ∃ (x7_2 : List Int) (x21_2 : Int), v21 = .int .i64 x21_2 ∧ Aside0 (impl_waysTo.l1 kq a1 x5_1 x15_1 x7_2 a0 x15_1 t258 (t258.length : Int) x21_2 = some r) ∧ Aside0 (kq ≤ k1) ∧ Aside0 (Kd.R (Kd.int .i64) 3 w' w.heap.size (fun k_ => some k_ ≠ (v256 : Value).ownBlock) u5 x5_1) ∧ Aside0 (Kd.R (Kd.int .i64) 3 w' w.heap.size (fun k_ => some k_ ≠ (u5 : Value).ownBlock) v256 x7_2) ∧ Aside0 (Kd.R k43 43 w' w.heap.size (fun _ => True) (.slice Ao16 t258.length co16) t258) ∧ Aside0 (Below w.heap.size w w'))
       case atStart => exact ⟨(y255), (0), t2_, H', ⟨Nat.le_refl _⟩, ⟨by (with_reducible repeat (first | apply Kd.R_alloc | apply Kd.R_drewN | apply Kd.R_drew)); exact Kd.R_mono HO_5.out (fun _ hk => hk.2)⟩, ⟨by (with_reducible repeat (first | apply Kd.R_alloc | apply Kd.R_drewN | apply Kd.R_drew)); exact Kd.R_mono HO257.out (fun _ hk => hk.2)⟩, ⟨R_ HO260.out⟩, ⟨L_ HB.out (Nat.le_refl _) (Nat.le_refl _) (Nat.le_refl _)⟩⟩
       case round =>
        clear H'; obtain ⟨x7_2, x21_2, rfl, HA, HK2, HO_5, HO_7, HO_19, HB⟩ := hrel
        cases gk with
        | zero => exact absurd HA.out (by simp [impl_waysTo.l1])
        | succ k2 =>
         have H := HA.out; clear HA; simp only [impl_waysTo.l1] at H
         by_cases c17 : x21_2 < (t258.length : Int)
         ·
          rw [if_pos c17] at H; have c17b0 : decide (x21_2 < (t258.length : Int)) = true := decide_eq_true c17; clear c17
          by_cases c18 : 0 ≤ x21_2
          ·
           rw [if_pos c18] at H; have c18b0 : decide (0 ≤ x21_2) = true := decide_eq_true c18; clear c18
           by_cases c19 : x21_2 < (t258.length : Int)
           ·
            rw [if_pos c19] at H; have c19b0 : decide (x21_2 < (t258.length : Int)) = true := decide_eq_true c19; clear c19; have HC20 := a_ H; clear H; have p261 : 0 ≤ (x21_2 : Int) := of_decide_eq_true t0_; have q261 : x21_2 < (t258.length : Int) := of_decide_eq_true t0_; obtain ⟨ad261, e261, hx261_0, hx261_1⟩ := at_T43 (Kd.R_reads' HO_19.out).2.2 x21_2 p261 q261
            cases e261
            replace p261 := eq_true p261; replace q261 := eq_true q261
            go_upto_region 10 with (first | ((with_reducible refine gate_dst (N := 9) rfl ?_); refine box_event ?hg (N := 9) ?hd (cs := #[.int .i64 0, .int .i64 0]) (t := 43) ?hr ?_; (case hd => rfl); (case hg => rfl); (case hr => first | (go_simp; done) | (go_simp; rfl)); intro gb262 hg w21 hbox hb; have n0_ := a_ (Kd.R_below (R_ HO_5.out) hb); have n1_ := a_ (Kd.R_below (R_ HO_7.out) hb); have n2_ := a_ (Kd.R_below (Kd.R_elderB (R_ HO_19.out) gb262 (Nat.le_of_eq hg.symm)) hb); have n3_ := a_ (below_step (L_ HB.out (Nat.le_refl _) (Nat.le_refl _) (Nat.le_refl _)) hb); have n4_ := a_ (hbox); have n5_ := a_ ((by rw [hg]; exact (below_size (L_ HB.out (Nat.le_refl _) (Nat.le_refl _) (Nat.le_refl _))) : w.heap.size ≤ gb262)); have n6_ := a_ ((by rw [hg]; exact (below_size (L_ HB.out (Nat.le_refl _) (Nat.le_refl _) (Nat.le_refl _))) : w.heap.size ≤ gb262)); clear HO_5; clear HO_7; clear HO_19; clear HB; have HO_5 := n0_; have HO_7 := n1_; have HO_19 := n2_; have HB := n3_; have BK262 := n4_; have GW262 := n5_; have GE262 := n6_; clear n0_ n1_ n2_ n3_ n4_ n5_ n6_; clear hb hbox hg; have hcz22_0 : w21.cell? ⟨gb262, 0, none⟩ = some (.int .i64 0) := c_ BK262.out 0; have hcz22_1 : w21.cell? ⟨gb262, 1, none⟩ = some (.int .i64 0) := c_ BK262.out 1; have hfz22_0 := blk_frozen BK262.out 0; have hfz22_1 := blk_frozen BK262.out 1))
            (try simp only [Act.put, List.setIfInBounds_toArray, List.set_cons_zero, List.set_cons_succ])
            go_cut [34] (fun v34 wc => ∃ (kq : Nat) (x34_19 : Bool), v34 = .bool x34_19 ∧ Aside0 (impl_waysTo.j2 kq a1 x5_1 x15_1 x7_2 a0 x15_1 t258 (t258.length : Int) x21_2 x34_19 ((rd_T43 t258 x21_2).f0) ((rd_T43 t258 x21_2).f1) = some r) ∧ Aside0 (kq ≤ k2) ∧ Aside0 (Kd.R (Kd.int .i64) 3 wc w.heap.size (fun k_ => some k_ ≠ (v256 : Value).ownBlock) u5 x5_1) ∧ Aside0 (Kd.R (Kd.int .i64) 3 wc w.heap.size (fun k_ => some k_ ≠ (u5 : Value).ownBlock) v256 x7_2) ∧ Aside0 (Kd.R k43 43 wc w.heap.size (fun k_ => k_ ≠ gb262) (.slice (some ad261) t258.length co16) t258) ∧ Aside0 (wc.heap[gb262]? = some (.cells #[.int .i64 ((rd_T43 t258 x21_2).f0), .int .i64 ((rd_T43 t258 x21_2).f1)] 43 (0, 0))) ∧ Aside0 (Below w.heap.size w wc))
            case first =>
             have H := HC20.out; clear HC20
             by_cases c23 : a1 = true
             ·
              subst c23; have H1 : (if x15_1 = 0 then (impl_waysTo.j2 k2 true x5_1 x15_1 x7_2 a0 x15_1 t258 (t258.length : Int) x21_2 (((rd_T43 t258 x21_2).f1) != 2) ((rd_T43 t258 x21_2).f0) ((rd_T43 t258 x21_2).f1)) else (impl_waysTo.j2 k2 true x5_1 x15_1 x7_2 a0 x15_1 t258 (t258.length : Int) x21_2 false ((rd_T43 t258 x21_2).f0) ((rd_T43 t258 x21_2).f1))) = some r := by rw [if_pos rfl] at H; exact H
              clear H; have H := H1; clear H1
              by_cases c24 : x15_1 = 0
              ·
               rw [if_pos c24] at H; have c24b0 : (x15_1 == 0) = true := beq_iff_eq.mpr c24; have c24b1 : (x15_1 != 0) = false := bne_eq_false_iff_eq.mpr c24; clear c24
               (first | rw [c24b0] | (simp only [i64_w, i32_w]; rw [c24b0]) | skip)
               have H' := a_ H; clear H; have hcz25_0 : w21.cell? ⟨gb262, 0, none⟩ = some (.int .i64 0) := c_ BK262.out 0; have hcz25_1 : w21.cell? ⟨gb262, 1, none⟩ = some (.int .i64 0) := c_ BK262.out 1; have hfz25_0 := blk_frozen BK262.out 0; have hfz25_1 := blk_frozen BK262.out 1
               go_wp2
               go_meet
               case rel => exact ⟨_, ((((rd_T43 t258 x21_2).f1) != 2)), t2_, H', ⟨t45_⟩, ⟨t24_⟩, ⟨t25_⟩, ⟨t16_⟩, ⟨t21_⟩, ⟨L_ HB.out GE262.out GE262.out GE262.out⟩⟩
              ·
               rw [if_neg c24] at H; have c24b0 : (x15_1 == 0) = false := beq_eq_false_iff_ne.mpr c24; have c24b1 : (x15_1 != 0) = true := bne_iff_ne.mpr c24
               (first | rw [c24b0] | (simp only [i64_w, i32_w]; rw [c24b0]) | skip)
               have H' := a_ H; clear H
               go_wp2
               go_meet
               case rel => exact ⟨_, (false), t2_, H', ⟨t45_⟩, ⟨t24_⟩, ⟨t25_⟩, ⟨t16_⟩, ⟨t21_⟩, ⟨L_ HB.out GE262.out GE262.out GE262.out⟩⟩
             ·
              replace c23 := Bool.eq_false_iff.mpr c23; subst c23; have H1 : (impl_waysTo.j2 k2 false x5_1 x15_1 x7_2 a0 x15_1 t258 (t258.length : Int) x21_2 false ((rd_T43 t258 x21_2).f0) ((rd_T43 t258 x21_2).f1)) = some r := by rw [if_neg (show ¬ (false = true) by decide)] at H; exact H
              clear H; have H := H1; clear H1; have H' := a_ H; clear H
              go_wp2
              go_meet
              case rel => exact ⟨_, (false), t2_, H', ⟨t45_⟩, ⟨t24_⟩, ⟨t25_⟩, ⟨t16_⟩, ⟨t21_⟩, ⟨L_ HB.out GE262.out GE262.out GE262.out⟩⟩
            case rest =>
             clear HC20; obtain ⟨kq, x34_19, rfl, HA, HJ19, HO_5, HO_7, HO_19, BK262, HB⟩ := hcut
             cases kq with
             | zero => exact absurd HA.out (by simp [impl_waysTo.j2])
             | succ kj19 =>
              have H := HA.out; clear HA; simp only [impl_waysTo.j2] at H
              by_cases c26 : x34_19 = true
              ·
               subst c26; have H1 : (impl_waysTo.l1 kj19 a1 x5_1 x15_1 x7_2 a0 x15_1 t258 (t258.length : Int) (wrap64 (x21_2 + 1))) = some r := by rw [if_pos rfl] at H; exact H
               clear H; have H := H1; clear H1; have H' := a_ H; clear H
               go_wp2
               go_roundg kj19
               case measure => have := HK1.out; have := HK2.out; have := HJ19.out; omega
               case rel => exact ⟨(x7_2), (wrap64 (x21_2 + 1)), t2_, H', ⟨by have := HK1.out; have := HK2.out; have := HJ19.out; omega⟩, ⟨R_ HO_5.out⟩, ⟨R_ HO_7.out⟩, ⟨t58_⟩, ⟨L_ HB.out GE262.out GE262.out GE262.out⟩⟩
              ·
               replace c26 := Bool.eq_false_iff.mpr c26; subst c26; have H1 : ((impl_Dart_score.f ((rd_T43 t258 x21_2).f0) ((rd_T43 t258 x21_2).f1)).bind fun t263 => (impl_waysTo.l2 kj19 a1 x5_1 x15_1 x7_2 a0 x15_1 t258 (t258.length : Int) x21_2 (wrap64 (181 - t263)) 0 ((rd_T43 t258 x21_2).f0) ((rd_T43 t258 x21_2).f1))) = some r := by rw [if_neg (show ¬ (false = true) by decide)] at H; exact H
               clear H; have H := H1; clear H1; replace H := Option.bind_eq_some_iff.mp H; obtain ⟨t263, A270, H⟩ := H; replace H : (impl_waysTo.l2 kj19 a1 x5_1 x15_1 x7_2 a0 x15_1 t258 (t258.length : Int) x21_2 (wrap64 (181 - t263)) 0 ((rd_T43 t258 x21_2).f0) ((rd_T43 t258 x21_2).f1)) = some r := H; have A27 := a_ A270; clear A270; have H' := a_ H; clear H; have hcz28_0 : wc.cell? ⟨gb262, 0, none⟩ = some (.int .i64 ((rd_T43 t258 x21_2).f0)) := c_ BK262.out 0; have hcz28_1 : wc.cell? ⟨gb262, 1, none⟩ = some (.int .i64 ((rd_T43 t258 x21_2).f1)) := c_ BK262.out 1; have hfz28_0 := blk_frozen BK262.out 0; have hfz28_1 := blk_frozen BK262.out 1
               go_wp2_with (first | ((with_reducible refine gate_callee (f := 36) rfl ?_); refine goesL_ (some 36) rfl rfl Try.func36 t1_ rfl #[.agg #[.int .i64 ((rd_T43 t258 x21_2).f0), .int .i64 ((rd_T43 t258 x21_2).f1)]] rfl (by (try simp only [m1_, m2_, m3_]); first | done | rfl) ?_; (with_reducible refine (impl_Dart_score.calls ((rd_T43 t258 x21_2).f0) ((rd_T43 t258 x21_2).f1) t263 _ A27.out).mono ?_); rintro e w29 ⟨rfl, hb⟩; refine ⟨_, rfl, ?_⟩; have n0_ := a_ (Kd.R_below (R_ HO_5.out) hb); have n1_ := a_ (Kd.R_below (R_ HO_7.out) hb); have n2_ := a_ (Kd.R_below (R_ HO_19.out) hb); have n3_ := bb_ BK262 hb; have n4_ := a_ (below_step (L_ HB.out GE262.out GE262.out GE262.out) hb); clear HO_5; clear HO_7; clear HO_19; clear BK262; clear HB; have HO_5 := n0_; have HO_7 := n1_; have HO_19 := n2_; have BK262 := n3_; have HB := n4_; clear n0_ n1_ n2_ n3_ n4_; (try clear hb); (try clear hb2); (try clear hk); (try clear hi)))
               go_loopg [38] kj19 (fun kq v38 w' => ∃ (x7_4 : List Int) (x38_4 : Int), v38 = .int .i64 x38_4 ∧ Aside0 (impl_waysTo.l2 kq a1 x5_1 x15_1 x7_4 a0 x15_1 t258 (t258.length : Int) x21_2 (wrap64 (181 - t263)) x38_4 ((rd_T43 t258 x21_2).f0) ((rd_T43 t258 x21_2).f1) = some r) ∧ Aside0 (kq ≤ kj19) ∧ Aside0 (Kd.R (Kd.int .i64) 3 w' w.heap.size (fun k_ => some k_ ≠ (v256 : Value).ownBlock) u5 x5_1) ∧ Aside0 (Kd.R (Kd.int .i64) 3 w' w.heap.size (fun k_ => some k_ ≠ (u5 : Value).ownBlock) v256 x7_4) ∧ Aside0 (Kd.R k43 43 w' w.heap.size (fun k_ => k_ ≠ gb262) (.slice (some ad261) t258.length co16) t258) ∧ Aside0 (w'.heap[gb262]? = some (.cells #[.int .i64 ((rd_T43 t258 x21_2).f0), .int .i64 ((rd_T43 t258 x21_2).f1)] 43 (0, 0))) ∧ Aside0 (Below w.heap.size w w'))
               case atStart => exact ⟨(x7_2), (0), t2_, H', ⟨Nat.le_refl _⟩, ⟨R_ HO_5.out⟩, ⟨R_ HO_7.out⟩, ⟨R_ HO_19.out⟩, ⟨B_ BK262.out⟩, ⟨L_ HB.out GE262.out GE262.out GE262.out⟩⟩
               case round =>
                clear H'; obtain ⟨x7_4, x38_4, rfl, HA, HK4, HO_5, HO_7, HO_19, BK262, HB⟩ := hrel
                cases gk with
                | zero => exact absurd HA.out (by simp [impl_waysTo.l2])
                | succ k4 =>
                 have H := HA.out; clear HA; simp only [impl_waysTo.l2] at H
                 by_cases c30 : x38_4 < (wrap64 (181 - t263))
                 ·
                  rw [if_pos c30] at H; have c30b0 : decide (x38_4 < (wrap64 (181 - t263))) = true := decide_eq_true c30; clear c30; replace H := Option.bind_eq_some_iff.mp H; obtain ⟨t264, A310, H⟩ := H; replace H : (if 0 ≤ (wrap64 (x38_4 + t264)) then (if (wrap64 (x38_4 + t264)) < (x7_4.length : Int) then (if 0 ≤ x38_4 then (if x38_4 < (x5_1.length : Int) then (impl_waysTo.l2 k4 a1 x5_1 x15_1 (x7_4.set ((wrap64 (x38_4 + t264)) : Int).toNat (wrap64 ((rd x7_4 (wrap64 (x38_4 + t264))) + (rd x5_1 x38_4)))) a0 x15_1 t258 (t258.length : Int) x21_2 (wrap64 (181 - t263)) (wrap64 (x38_4 + 1)) ((rd_T43 t258 x21_2).f0) ((rd_T43 t258 x21_2).f1)) else (none)) else (none)) else (none)) else (none)) = some r := H; have A31 := a_ A310; clear A310; obtain ⟨ji32, hji32⟩ : ∃ j_ : Int, (wrap64 (x38_4 + t264)) = j_ := ⟨_, rfl⟩; replace H : (if 0 ≤ (ji32) then (if (ji32) < (x7_4.length : Int) then (if 0 ≤ x38_4 then (if x38_4 < (x5_1.length : Int) then (impl_waysTo.l2 k4 a1 x5_1 x15_1 (x7_4.set ((ji32) : Int).toNat (wrap64 ((rd x7_4 (ji32)) + (rd x5_1 x38_4)))) a0 x15_1 t258 (t258.length : Int) x21_2 (wrap64 (181 - t263)) (wrap64 (x38_4 + 1)) ((rd_T43 t258 x21_2).f0) ((rd_T43 t258 x21_2).f1)) else (none)) else (none)) else (none)) else (none)) = some r := by first | (rw [hji32] at H; exact H) | (simp only [hji32] at H ⊢; exact H)
                  (try rw [hji32] at A31)
                  have hji32w : (IntKind.i64.wrap (x38_4 + t264)) = ji32 := (i64_w _).trans hji32
                  by_cases c33 : 0 ≤ (ji32)
                  ·
                   rw [if_pos c33] at H; have c33b0 : decide (0 ≤ (ji32)) = true := decide_eq_true c33; clear c33
                   by_cases c34 : (ji32) < (x7_4.length : Int)
                   ·
                    rw [if_pos c34] at H; have c34b0 : decide ((ji32) < (x7_4.length : Int)) = true := decide_eq_true c34; clear c34
                    by_cases c35 : 0 ≤ x38_4
                    ·
                     rw [if_pos c35] at H; have c35b0 : decide (0 ≤ x38_4) = true := decide_eq_true c35; clear c35
                     by_cases c36 : x38_4 < (x5_1.length : Int)
                     ·
                      rw [if_pos c36] at H; have c36b0 : decide (x38_4 < (x5_1.length : Int)) = true := decide_eq_true c36; clear c36; obtain ⟨y267, hy267⟩ : ∃ y_ : List Int, y_ = (x7_4.set ((ji32) : Int).toNat (wrap64 ((rd x7_4 (ji32)) + (rd x5_1 x38_4)))) := ⟨_, rfl⟩; replace H : (impl_waysTo.l2 k4 a1 x5_1 x15_1 y267 a0 x15_1 t258 (t258.length : Int) x21_2 (wrap64 (181 - t263)) (wrap64 (x38_4 + 1)) ((rd_T43 t258 x21_2).f0) ((rd_T43 t258 x21_2).f1)) = some r := by first | (rw [hy267]; with_reducible exact H) | (have H2_ := (Option.bind_some _ _).symm.trans H; rw [hy267]; with_reducible exact H2_) | (have H2_ := (Option.bind_some _ _).symm.trans H; with_reducible exact H2_) | with_reducible exact H | (rw [hy267]; exact H) | exact H
                      have Ny267 := a_ hy267; clear hy267; have H' := a_ H; clear H
                      try go_wp2
                      have n0_ := a_ (Kd.R_drew HO_5.out); have n1_ := a_ (Kd.R_drew HO_7.out); have n2_ := a_ (Kd.R_drew HO_19.out); have n3_ := a_ (blk_drew BK262.out); have n4_ := a_ (below_drew1 HB.out); clear HO_5; clear HO_7; clear HO_19; clear BK262; clear HB; have HO_5 := n0_; have HO_7 := n1_; have HO_19 := n2_; have BK262 := n3_; have HB := n4_; clear n0_ n1_ n2_ n3_ n4_; obtain ⟨Ao39, co39, eo39⟩ := Kd.R_slice HO_5.out
                      (first | subst eo39 | (injection eo39 with f1_ f2_ f3_; have f4_ := f1_.symm; have f5_ := f3_.symm; clear f1_ f2_ f3_; subst f4_; subst f5_))
                      have p266 : 0 ≤ (x38_4 : Int) := of_decide_eq_true t0_; have q266 : x38_4 < (x5_1.length : Int) := of_decide_eq_true t0_; obtain ⟨ad266, e266, hx266_0⟩ := Kd.at_int (Kd.R_reads' HO_5.out).2.2 x38_4 p266 q266
                      cases e266
                      replace p266 := eq_true p266; replace q266 := eq_true q266; have p265 : 0 ≤ ((ji32) : Int) := of_decide_eq_true t0_; have q265 : (ji32) < (x7_4.length : Int) := of_decide_eq_true t0_; obtain ⟨Ao265, co265, eo265⟩ := Kd.R_slice HO_7.out; subst eo265; obtain ⟨ad265, e265, hx265_0⟩ := Kd.at_int (Kd.R_reads' HO_7.out).2.2 (ji32) p265 q265
                      cases e265
                      replace p265 := eq_true p265; replace q265 := eq_true q265
                      refine start_ (n := 14) (S := fun w' => w'.cell? ⟨gb262, 0, none⟩ = some (.int .i64 ((rd_T43 t258 x21_2).f0)) ∧ w'.cell? ⟨gb262, 1, none⟩ = some (.int .i64 ((rd_T43 t258 x21_2).f1)) ∧ w'.cell? (ad266.add (x38_4).toNat) = some (.int .i64 (rd x5_1 x38_4)) ∧ w'.cell? (ad265.add ((ji32)).toNat) = some (.int .i64 (rd x7_4 (ji32)))) (ds := [13]) #[false, false, false, false, false, false, false, false, false, false, false, false, false, false] t1_ rfl rfl ⟨c_ BK262.out 0, c_ BK262.out 1, hx266_0, hx265_0⟩ (fun hHeld => ?_); refine with_tabW impl_waysTo.tab14 impl_waysTo.bits14 (fun HT_ HW_ => ?_)
                      generalize wr.drew = w38 at HO_5 HO_7 HO_19 BK262 HB hx265_0 hx266_0 hHeld ⊢
                      refine pure_ (i := 0) (N := some 41) (v := ?_) (a' := ?_) #[true, false, false, false, false, false, false, false, false, false, false, false, false, false] rfl rfl (any_of HT_.out t1_) (fun _ _ _ h => h) (Or.inl ⟨by rfl, ?_⟩) ?_ ?_
                      rotate_left
                      ·
                       intro w'
                       go_simp
                       with_reducible rfl
                      rotate_left
                      ·
                       simp only [Act.put, List.setIfInBounds_toArray, List.set_cons_zero, List.set_cons_succ, i64_w, i32_w]
                       rfl
                      refine pure_ (i := 1) (N := some 42) (v := ?_) (a' := ?_) #[true, true, false, false, false, false, false, false, false, false, false, false, false, false] rfl rfl (any_of HT_.out t1_) (fun _ _ _ h => h) (Or.inl ⟨by rfl, ?_⟩) ?_ ?_
                      rotate_left
                      ·
                       intro w'
                       go_simp
                       with_reducible rfl
                      rotate_left
                      ·
                       simp only [Act.put, List.setIfInBounds_toArray, List.set_cons_zero, List.set_cons_succ, i64_w, i32_w]
                       rfl
                      refine pure_ (i := 7) (N := some 48) (v := ?_) (a' := ?_) #[true, true, false, false, false, false, false, true, false, false, false, false, false, false] rfl rfl (any_of HT_.out t1_) (fun _ _ _ h => h) (Or.inl ⟨by rfl, ?_⟩) ?_ ?_
                      rotate_left
                      ·
                       intro w'
                       go_simp
                       with_reducible rfl
                      rotate_left
                      ·
                       simp only [Act.put, List.setIfInBounds_toArray, List.set_cons_zero, List.set_cons_succ, i64_w, i32_w]
                       rfl
                      refine pure_ (i := 8) (N := some 49) (v := ?_) (a' := ?_) #[true, true, false, false, false, false, false, true, true, false, false, false, false, false] rfl rfl (any_of HT_.out t1_) (fun _ _ _ h => h) (Or.inl ⟨by rfl, ?_⟩) ?_ ?_
                      rotate_left
                      ·
                       intro w'
                       go_simp
                       with_reducible rfl
                      rotate_left
                      ·
                       simp only [Act.put, List.setIfInBounds_toArray, List.set_cons_zero, List.set_cons_succ, i64_w, i32_w]
                       rfl
                      refine pure_ (i := 9) (N := some 50) (v := ?_) (a' := ?_) #[true, true, false, false, false, false, false, true, true, true, false, false, false, false] rfl rfl (any_of HT_.out t1_) (fun _ _ _ h => h) (Or.inl ⟨by rfl, ?_⟩) ?_ ?_
                      rotate_left
                      ·
                       intro w'
                       go_simp
                       with_reducible rfl
                      rotate_left
                      ·
                       simp only [Act.put, List.setIfInBounds_toArray, List.set_cons_zero, List.set_cons_succ, i64_w, i32_w]
                       rfl
                      refine take_ (i := 2) (N := some 43) (v := ?_) (a' := ?_) #[true, true, true, false, false, false, false, true, true, true, false, false, false, false] rfl rfl (take_ofW HT_.out HW_.out t1_) (fun _ _ _ h => h) (Or.inl ⟨by rfl, ?_⟩) hHeld ?_ ?_
                      rotate_left
                      ·
                       rintro w' ⟨s0, s1, s2, s3⟩
                       go_simp
                       with_reducible rfl
                      rotate_left
                      ·
                       simp only [Act.put, List.setIfInBounds_toArray, List.set_cons_zero, List.set_cons_succ, i64_w, i32_w]
                       rfl
                      refine take_ (i := 10) (N := some 51) (v := ?_) (a' := ?_) #[true, true, true, false, false, false, false, true, true, true, true, false, false, false] rfl rfl (take_ofW HT_.out HW_.out t1_) (fun _ _ _ h => h) (Or.inl ⟨by rfl, ?_⟩) hHeld ?_ ?_
                      rotate_left
                      ·
                       rintro w' ⟨s0, s1, s2, s3⟩
                       go_simp
                       with_reducible rfl
                      rotate_left
                      ·
                       simp only [Act.put, List.setIfInBounds_toArray, List.set_cons_zero, List.set_cons_succ, i64_w, i32_w]
                       rfl
                      refine one_ (i := 3) (N := some 44) #[true, true, true, true, false, false, false, true, true, true, true, false, false, false] rfl rfl (one_of HT_.out t1_) t29_ (fun K hK => ?_)
                      refine goes_ Try.func36 t1_ rfl #[.agg #[.int .i64 ((rd_T43 t258 x21_2).f0), .int .i64 ((rd_T43 t258 x21_2).f1)]] (by rfl) rfl rfl (by (try simp only [m1_, m2_, m3_]); first | done | rfl) ?_
                      with_reducible refine (impl_Dart_score.calls ((rd_T43 t258 x21_2).f0) ((rd_T43 t258 x21_2).f1) t264 _ A31.out).mono ?_
                      rintro e w40 ⟨rfl, hb⟩; have HS2_ := (hb.cell (World.block_lt_of_cell? _ _ (hHeld.2.2.1))).trans (hHeld.2.2.1); have HS3_ := (hb.cell (World.block_lt_of_cell? _ _ (hHeld.2.2.2))).trans (hHeld.2.2.2)
                      refine ⟨_, rfl, ?_⟩
                      have n0_ := a_ (Kd.R_below (R_ HO_5.out) hb); have n1_ := a_ (Kd.R_below (R_ HO_7.out) hb); have n2_ := a_ (Kd.R_below (R_ HO_19.out) hb); have n3_ := bb_ BK262 hb; have n4_ := a_ (below_step (L_ HB.out GE262.out GE262.out GE262.out) hb); clear HO_5; clear HO_7; clear HO_19; clear BK262; clear HB; have HO_5 := n0_; have HO_7 := n1_; have HO_19 := n2_; have BK262 := n3_; have HB := n4_; clear n0_ n1_ n2_ n3_ n4_
                      (try clear hb)
                      (try clear hb2)
                      (try clear hk)
                      (try clear hi)
                      obtain ⟨Ao41, co41, eo41⟩ := Kd.R_slice HO_7.out
                      (first | subst eo41 | (injection eo41 with f1_ f2_ f3_; have f4_ := f1_.symm; have f5_ := f3_.symm; clear f1_ f2_ f3_; subst f4_; subst f5_))
                      have p37 : 0 ≤ ((ji32) : Int) := of_decide_eq_true t0_; have q37 : ((ji32) : Int) < ((x7_4.length : Int) : Int) := of_decide_eq_true t0_; obtain ⟨go37, co37, eo37, gb37, gl37, cl37, HG37⟩ := Kd.R_form HO_7.out t46_
                      (first | cases eo37 | (injection eo37 with ea_ en_ ec_; (first | subst ea_ | (injection ea_ with ea_; subst ea_)); subst ec_; clear en_))
                      have GB37 := a_ gb37; have GG37 := a_ HG37; clear gb37 gl37 HG37
                      (first | simp only [add_plain] at hx265_0 | skip)
                      obtain ⟨hx37_0, hf37_0⟩ := Kd.R_celln 0 HO_7.out ((ji32) : Int) p37 q37; replace p37 := eq_true p37; replace q37 := eq_true q37; have HP42 := Kd.R_putn HO_7.out ((ji32) : Int) (wrap64 ((rd x7_4 (ji32)) + (rd x5_1 x38_4))); rw [← Ny267.out] at HP42; have HQ42 := a_ HP42; clear HP42
                      refine hK.out _ _ ⟨c_ BK262.out 0, c_ BK262.out 1, HS2_, HS3_⟩ (fun hHeld => ?_)
                      clear hK K
                      refine norm_ (a' := ?_) ?_ ?_
                      rotate_left
                      ·
                       show Act.put _ (some 44) _ = _
                       simp only [Act.put, List.setIfInBounds_toArray, List.set_cons_zero, List.set_cons_succ, i64_w, i32_w]
                       rfl
                      refine pure_ (i := 4) (N := some 45) (v := ?_) (a' := ?_) #[true, true, true, true, true, false, false, true, true, true, true, false, false, false] rfl rfl (any_of HT_.out t1_) (fun _ _ _ h => h) (Or.inl ⟨by rfl, ?_⟩) ?_ ?_
                      rotate_left
                      ·
                       intro w'
                       go_simp
                       with_reducible rfl
                      rotate_left
                      ·
                       simp only [Act.put, List.setIfInBounds_toArray, List.set_cons_zero, List.set_cons_succ, i64_w, i32_w]
                       rfl
                      refine pure_ (i := 5) (N := some 46) (v := ?_) (a' := ?_) #[true, true, true, true, true, true, false, true, true, true, true, false, false, false] rfl rfl (any_of HT_.out t1_) (fun _ _ _ h => h) (Or.inl ⟨by rfl, ?_⟩) ?_ ?_
                      rotate_left
                      ·
                       intro w'
                       go_simp
                       with_reducible rfl
                      rotate_left
                      ·
                       simp only [Act.put, List.setIfInBounds_toArray, List.set_cons_zero, List.set_cons_succ, i64_w, i32_w]
                       rfl
                      refine take_ (i := 6) (N := some 47) (v := ?_) (a' := ?_) #[true, true, true, true, true, true, true, true, true, true, true, false, false, false] rfl rfl (take_ofW HT_.out HW_.out t1_) (fun _ _ _ h => h) (Or.inl ⟨by rfl, ?_⟩) hHeld ?_ ?_
                      rotate_left
                      ·
                       rintro w' ⟨s0, s1, s2, s3⟩
                       (first | simp only [add_plain] at s3 | skip)
                       go_simp
                       with_reducible rfl
                      rotate_left
                      ·
                       simp only [Act.put, List.setIfInBounds_toArray, List.set_cons_zero, List.set_cons_succ, i64_w, i32_w]
                       rfl
                      refine pure_ (i := 11) (N := some 52) (v := ?_) (a' := ?_) #[true, true, true, true, true, true, true, true, true, true, true, true, false, false] rfl rfl (any_of HT_.out t1_) (fun _ _ _ h => h) (Or.inl ⟨by rfl, ?_⟩) ?_ ?_
                      rotate_left
                      ·
                       intro w'
                       go_simp
                       with_reducible rfl
                      rotate_left
                      ·
                       simp only [Act.put, List.setIfInBounds_toArray, List.set_cons_zero, List.set_cons_succ, i64_w, i32_w]
                       rfl
                      refine pure_ (i := 12) (N := some 53) (v := ?_) (a' := ?_) #[true, true, true, true, true, true, true, true, true, true, true, true, true, false] rfl rfl (any_of HT_.out t1_) (fun _ _ _ h => h) (Or.inl ⟨by rfl, ?_⟩) ?_ ?_
                      rotate_left
                      ·
                       intro w'
                       go_simp
                       with_reducible rfl
                      rotate_left
                      ·
                       simp only [Act.put, List.setIfInBounds_toArray, List.set_cons_zero, List.set_cons_succ, i64_w, i32_w]
                       rfl
                      refine last_ (i := 13) (N := none) #[true, true, true, true, true, true, true, true, true, true, true, true, true, true] rfl rfl (one_of HT_.out t1_) t29_ (fun K hK => ?_)
                      refine skip_ (w1 := ?_) (by rfl) rfl ?_ ?_
                      rotate_left
                      ·
                       go_simp
                       rfl
                      refine hK.out _ _ ?_
                      clear hK K
                      refine done_ (done_of HT_.out t1_) ?_
                      try go_wp2
                      go_roundg k4
                      case measure => have := HK1.out; have := HK2.out; have := HJ19.out; have := HK4.out; omega
                      case rel => exact ⟨(y267), (wrap64 (x38_4 + 1)), t2_, H', ⟨by have := HK1.out; have := HK2.out; have := HJ19.out; have := HK4.out; omega⟩, ⟨by (with_reducible repeat (first | apply Kd.R_alloc | apply Kd.R_drewN | apply Kd.R_drew)); exact Kd.R_mono (Kd.R_far (p := ⟨go37, ((ji32) : Int).toNat, none⟩) (Kd.R_mono HO_5.out (fun k_ hk => (⟨hk, fun e_ => hk (by rw [e_]; rfl)⟩ : _ ∧ k_ ≠ go37))) (fun _ hk => hk.2) (.int .i64 (wrap64 ((rd x7_4 (ji32)) + (rd x5_1 x38_4))))) (fun _ hk => hk.1)⟩, ⟨by (with_reducible repeat (first | apply Kd.R_alloc | apply Kd.R_drewN | apply Kd.R_drew)); exact HQ42.out⟩, ⟨by (with_reducible repeat (first | apply Kd.R_alloc | apply Kd.R_drewN | apply Kd.R_drew)); exact Kd.R_mono (Kd.R_far (p := ⟨go37, ((ji32) : Int).toNat, none⟩) (Kd.R_types HO_19.out GG37.out t29_) (fun _ hk => hk.2) (.int .i64 (wrap64 ((rd x7_4 (ji32)) + (rd x5_1 x38_4))))) (fun _ hk => hk.1)⟩, ⟨by (with_reducible repeat (first | refine blk_drewN ?_ _ | refine blk_drew ?_ | refine blk_alloc ?_ _)); refine blk_far ?_ (by have h_ := Kd.R_ne HO_7.out BK262.out t29_; intro e_; exact h_ (by rw [e_]; rfl)) _; exact B_ BK262.out⟩, ⟨by repeat (first | (with_reducible first | exact HB.out | apply below_alloc | apply pw_below_drewN | apply below_drew1 | refine below_set ?_ GB37.out | refine below_set ?_ GE262.out) | exact HB.out)⟩⟩
                     ·
                      rw [if_neg c36] at H
                      exact absurd H t31_
                    ·
                     rw [if_neg c35] at H
                     exact absurd H t31_
                   ·
                    rw [if_neg c34] at H
                    exact absurd H t31_
                  ·
                   rw [if_neg c33] at H
                   exact absurd H t31_
                 ·
                  rw [if_neg c30] at H; have c30b0 : decide (x38_4 < (wrap64 (181 - t263))) = false := decide_eq_false c30; clear c30; have H' := a_ H; clear H
                  go_wp2
                  go_roundg k4
                  case measure => have := HK1.out; have := HK2.out; have := HJ19.out; have := HK4.out; omega
                  case rel => exact ⟨(x7_4), (wrap64 (x21_2 + 1)), t2_, H', ⟨by have := HK1.out; have := HK2.out; have := HJ19.out; have := HK4.out; omega⟩, ⟨R_ HO_5.out⟩, ⟨R_ HO_7.out⟩, ⟨t58_⟩, ⟨L_ HB.out GE262.out GE262.out GE262.out⟩⟩
           ·
            rw [if_neg c19] at H
            exact absurd H t31_
          ·
           rw [if_neg c18] at H
           exact absurd H t31_
         ·
          rw [if_neg c17] at H; have c17b0 : decide (x21_2 < (t258.length : Int)) = false := decide_eq_false c17; clear c17; have H' := a_ H; clear H
          go_wp2
          go_roundg k2
          case measure => have := HK1.out; have := HK2.out; omega
          case rel => exact ⟨(x7_2), (wrap64 (x15_1 + 1)), t2_, H', ⟨t41_⟩, ⟨by (with_reducible repeat (first | apply Kd.R_alloc | apply Kd.R_drewN | apply Kd.R_drew)); exact Kd.R_mono HO_7.out (fun _ hk => trivial)⟩, ⟨L_ HB.out (Nat.le_refl _) (Nat.le_refl _) (Nat.le_refl _)⟩⟩
      ·
       rw [if_neg c11] at H
       exact absurd H t31_
     ·
      rw [if_neg c10] at H; have c10b0 : decide (x15_1 < a0) = false := decide_eq_false c10; clear c10; obtain rfl := Option.some.inj H
      go_wp2
      go_ret
      exact ⟨_, by first | rfl | (simp [errW_none, errW_some] <;> rfl) | (simp [*, errW_none, errW_some] <;> rfl), by (with_reducible repeat (first | apply Kd.R_alloc | apply Kd.R_drewN | apply Kd.R_drew)); exact HO_5.out, by repeat (first | (with_reducible first | exact HB.out | apply below_alloc | apply pw_below_drewN | apply below_drew1) | exact HB.out)⟩
  ·
   rw [if_neg c4] at H
   exact absurd H t31_
 ·
  rw [if_neg c3] at H
  exact absurd H t31_
end Go.Proofs.Ytacmfgbeaoalfaa.QFnDartsFinish
