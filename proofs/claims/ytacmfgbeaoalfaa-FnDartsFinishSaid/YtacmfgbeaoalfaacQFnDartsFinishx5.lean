/- Functions of this law, printed out of the translation: what each computes, and that its code answers so. No condition. -/
import Derived.Test.YtacmfgbeaoalfaacQFnDartsFinishx0
import Derived.Test.YtacmfgbeaoalfaacQFnDartsFinishx4
import Derived.Test.YtacmfgbeaoalfaacGQ
namespace Go.Proofs.Ytacmfgbeaoalfaa.QFnDartsFinish
open Go.RowKit Go.Proofs.YtacmfgbeaoalfaaW.PrintWords Go.Proofs.YtacmfgbeaoalfaaW.PrintLast Go.Proofs.YtacmfgbeaoalfaaW.PrintMore Go.Proofs.Ytacmfgbeaoalfaa.Sh
attribute [local go_sem] max2_int min2_int max_two min_two max_three min_three max_four min_four
set_option linter.unusedVariables false
set_option linter.unusedSimpArgs false
mutual
def spec_daCount.l0 : Nat → Int → Int → Bool → List Int → List (S43) → Int → Option (List Int)
 | 0, _, _, _, _, _, _ => none
 | k + 1, x0, x1, x2, x7, x8, x9 => if x9 ≤ x0 then (if 0 ≤ (wrap64 (x1 + 1)) then (if (wrap64 (x1 + 1) : Int).toNat ≤ 35184372088832 then (spec_daCount.l1 k x0 x1 x2 x7 x8 x9 (List.replicate (wrap64 (x1 + 1) : Int).toNat 0) x8 (x8.length : Int) 0) else (none)) else (none)) else (some x7)
def spec_daCount.l1 : Nat → Int → Int → Bool → List Int → List (S43) → Int → List Int → List (S43) → Int → Int → Option (List Int)
 | 0, _, _, _, _, _, _, _, _, _, _ => none
 | k + 1, x0, x1, x2, x7, x8, x9, x10, x28, x29, x30 => if x30 < x29 then (if 0 ≤ x30 then (if x30 < (x28.length : Int) then (if x2 = true then (if x9 = x0 then (spec_daCount.j2 k x0 x1 x2 x7 x8 x9 x10 x28 x29 x30 (((rd_T43 x28 x30).f1) != 2) ((rd_T43 x28 x30).f0) ((rd_T43 x28 x30).f1)) else (spec_daCount.j2 k x0 x1 x2 x7 x8 x9 x10 x28 x29 x30 false ((rd_T43 x28 x30).f0) ((rd_T43 x28 x30).f1))) else (spec_daCount.j2 k x0 x1 x2 x7 x8 x9 x10 x28 x29 x30 false ((rd_T43 x28 x30).f0) ((rd_T43 x28 x30).f1))) else (none)) else (none)) else (spec_daCount.l0 k x0 x1 x2 x10 x8 (wrap64 (x9 + 1)))
def spec_daCount.j2 : Nat → Int → Int → Bool → List Int → List (S43) → Int → List Int → List (S43) → Int → Int → Bool → Int → Int → Option (List Int)
 | 0, _, _, _, _, _, _, _, _, _, _, _, _, _ => none
 | k + 1, x0, x1, x2, x7, x8, x9, x10, x28, x29, x30, x44, x215000, x215001 => if x44 = true then (spec_daCount.l1 k x0 x1 x2 x7 x8 x9 x10 x28 x29 (wrap64 (x30 + 1))) else (spec_daCount.l2 k x0 x1 x2 x7 x8 x9 x10 (wrap64 (x215000 * x215001)) x28 x29 x30 x215000 x215001)
def spec_daCount.l2 : Nat → Int → Int → Bool → List Int → List (S43) → Int → List Int → Int → List (S43) → Int → Int → Int → Int → Option (List Int)
 | 0, _, _, _, _, _, _, _, _, _, _, _, _, _ => none
 | k + 1, x0, x1, x2, x7, x8, x9, x10, x13, x28, x29, x30, x215000, x215001 => if x13 ≤ x1 then (if 0 ≤ x13 then (if x13 < (x10.length : Int) then (if 0 ≤ (wrap64 (x13 - (wrap64 (x215000 * x215001)))) then (if (wrap64 (x13 - (wrap64 (x215000 * x215001)))) < (x7.length : Int) then (spec_daCount.l2 k x0 x1 x2 x7 x8 x9 (x10.set (x13 : Int).toNat (wrap64 ((rd x10 x13) + (rd x7 (wrap64 (x13 - (wrap64 (x215000 * x215001)))))))) (wrap64 (x13 + 1)) x28 x29 x30 x215000 x215001) else (none)) else (none)) else (none)) else (none)) else (spec_daCount.l1 k x0 x1 x2 x7 x8 x9 x10 x28 x29 (wrap64 (x30 + 1)))
end
def spec_daCount.f (k : Nat) (a0 : Int) (a1 : Int) (a2 : Bool) : Option (List Int) := if 0 ≤ (wrap64 (a1 + 1)) then (if (wrap64 (a1 + 1) : Int).toNat ≤ 35184372088832 then ((some (List.replicate (wrap64 (a1 + 1) : Int).toNat 0 : List Int)).bind fun y203 => (if 0 < (y203.length : Int) then ((spec_daAll.f k).bind fun t207 => (spec_daCount.l0 k a0 a1 a2 (y203.set (0 : Int).toNat 1) t207 1)) else (none))) else (none)) else (none)
def spec_daCount.T15 : Bool × List (List Nat × List Nat) := (true, [([], []), ([], []), ([0, 1], [0, 1]), ([2], [2]), ([], []), ([], []), ([], []), ([6], [6]), ([], []), ([8], [8]), ([7, 9], [7, 9]), ([5, 10], [5, 10]), ([4, 11], [4, 11]), ([12], [12]), ([3, 13], [3, 13]), ([0, 1, 0, 1, 2, 3, 4, 5, 6, 7, 8, 9, 10, 11, 12, 13, 14], [0, 1]), ([15, 14, 0, 1, 2, 3, 4, 5, 6, 7, 8, 9, 10, 11, 12, 13, 14], [14, 15])])
def spec_daCount.B15 : List Nat := [0, 0, 3, 7, 0, 0, 0, 64, 0, 256, 960, 2016, 4080, 8176, 16383, 32767, 65535]
theorem spec_daCount.tab15 : rtab .any (opsOf Try.f46 15) = spec_daCount.T15 := by kernel_rfl
theorem spec_daCount.bits15 : waitsOk spec_daCount.T15.2 spec_daCount.B15 = true := by kernel_rfl
set_option maxHeartbeats 8000000 in
set_option maxRecDepth 100000 in
theorem spec_daCount.calls (k : Nat) (a0 : Int) (a1 : Int) (a2 : Bool) (r : List Int) (w : World) (h : spec_daCount.f k a0 a1 a2 = some r) :
  Calls Try.prog 46 #[.int .i64 a0, .int .i64 a1, .bool a2] w fun e w' => ∃ v0_ : Value, e = .returned (v0_) ∧ Kd.R (Kd.int .i64) 3 w' w.heap.size (fun _ => True) v0_ r ∧ Below w.heap.size w w' := by
 have hu43 := Try.underlying43; have HB := a_ (Below.refl w.heap.size w); have H : (if 0 ≤ (wrap64 (a1 + 1)) then (if (wrap64 (a1 + 1) : Int).toNat ≤ 35184372088832 then ((some (List.replicate (wrap64 (a1 + 1) : Int).toNat 0 : List Int)).bind fun y203 => (if 0 < (y203.length : Int) then ((spec_daAll.f k).bind fun t207 => (spec_daCount.l0 k a0 a1 a2 (y203.set (0 : Int).toNat 1) t207 1)) else (none))) else (none)) else (none)) = some r := h; clear h; obtain ⟨ji4, hji4⟩ : ∃ j_ : Int, (wrap64 (a1 + 1)) = j_ := ⟨_, rfl⟩; replace H : (if 0 ≤ (ji4) then (if (ji4 : Int).toNat ≤ 35184372088832 then ((some (List.replicate (ji4 : Int).toNat 0 : List Int)).bind fun y203 => (if 0 < (y203.length : Int) then ((spec_daAll.f k).bind fun t207 => (spec_daCount.l0 k a0 a1 a2 (y203.set (0 : Int).toNat 1) t207 1)) else (none))) else (none)) else (none)) = some r := by first | (rw [hji4] at H; exact H) | (simp only [hji4] at H ⊢; exact H)
 have hji4w : (IntKind.i64.wrap (a1 + 1)) = ji4 := (i64_w _).trans hji4
 by_cases c5 : 0 ≤ (ji4)
 ·
  rw [if_pos c5] at H; have c5b0 := eq_true c5; have c5b1 : decide (0 ≤ (ji4)) = true := decide_eq_true c5; clear c5
  by_cases c6 : (ji4 : Int).toNat ≤ 35184372088832
  ·
   rw [if_pos c6] at H; have c6b0 := eq_true c6; have c6b1 : decide ((ji4 : Int).toNat ≤ 35184372088832) = true := decide_eq_true c6; clear c6; obtain ⟨y203, hy203⟩ : ∃ y_ : List Int, y_ = (List.replicate (ji4 : Int).toNat 0) := ⟨_, rfl⟩; replace H : (if 0 < (y203.length : Int) then ((spec_daAll.f k).bind fun t207 => (spec_daCount.l0 k a0 a1 a2 (y203.set (0 : Int).toNat 1) t207 1)) else (none)) = some r := by first | (rw [hy203]; with_reducible exact H) | (have H2_ := (Option.bind_some _ _).symm.trans H; rw [hy203]; with_reducible exact H2_) | (have H2_ := (Option.bind_some _ _).symm.trans H; with_reducible exact H2_) | with_reducible exact H | (rw [hy203]; exact H) | exact H
   have Ny203 := a_ hy203; clear hy203
   by_cases c7 : 0 < (y203.length : Int)
   ·
    rw [if_pos c7] at H; have c7b0 : decide (0 < (y203.length : Int)) = true := decide_eq_true c7; have c7b1 : decide (0 < y203.length) = true := decide_eq_true t46_; clear c7; obtain ⟨y206, hy206⟩ : ∃ y_ : List Int, y_ = (y203.set (0 : Int).toNat 1) := ⟨_, rfl⟩; replace H : ((spec_daAll.f k).bind fun t207 => (spec_daCount.l0 k a0 a1 a2 y206 t207 1)) = some r := by first | (rw [hy206]; with_reducible exact H) | (have H2_ := (Option.bind_some _ _).symm.trans H; rw [hy206]; with_reducible exact H2_) | (have H2_ := (Option.bind_some _ _).symm.trans H; with_reducible exact H2_) | with_reducible exact H | (rw [hy206]; exact H) | exact H
    have Ny206 := a_ hy206; clear hy206; replace H := Option.bind_eq_some_iff.mp H; obtain ⟨t207, A90, H⟩ := H; replace H : (spec_daCount.l0 k a0 a1 a2 y206 t207 1) = some r := H; have A9 := a_ A90; clear A90; have H' := a_ H; clear H
    go_enter Try.func46, Try.ntmps46
    go_wp2_with (first | ((with_reducible refine gate_dst (N := 16) rfl ?_); refine Kd.R_make (Kd.int .i64) _ 3 rfl (N := 16) rfl 33 _ _ rfl ji4 rfl rfl Try.underlying33 (.int .i64 0) 8 info3 rfl t29_ t46_ 0 (ok := fun _ => True) (okp := fun _ => True) rfl (fun _ hk => hk) trivial (of_decide_eq_true t0_) (Nat.le_trans (Nat.mul_le_mul_right _ (of_decide_eq_true t0_ : ji4.toNat ≤ 35184372088832)) t46_) (Below.refl _ _) (Nat.le_refl _) ?_; intro v204 w10 ho11 hb hg_ hnew_; clear hg_ hnew_; (first | rw [← Ny203.out] at ho11 | (simp only [Int.reduceToNat] at ho11; rw [← Ny203.out] at ho11)); have n0_ := a_ (Kd.R_lower ho11 (below_size (L_ HB.out (Nat.le_refl _) (Nat.le_refl _) (Nat.le_refl _)))); have n1_ := a_ (below_step (L_ HB.out (Nat.le_refl _) (Nat.le_refl _) (Nat.le_refl _)) hb); clear HB; have HO205 := n0_; have HB := n1_; clear n0_ n1_; clear hb ho11; have p8 : 0 ≤ (0 : Int) := t46_; have q8 : (0 : Int) < ((y203.length : Int) : Int) := of_decide_eq_true t0_; have qi8 : (0 < y203.length) = True := eq_true t46_; obtain ⟨go8, co8, eo8, gb8, gl8, cl8, HG8⟩ := Kd.R_form HO205.out t46_; (first | cases eo8 | (injection eo8 with ea_ en_ ec_; (first | subst ea_ | (injection ea_ with ea_; subst ea_)); subst ec_; clear en_)); have GB8 := a_ gb8; have GG8 := a_ HG8; clear gb8 gl8 HG8; obtain ⟨hx8_0, hf8_0⟩ := Kd.R_celln 0 HO205.out (0 : Int) p8 q8; (try rw [show ((0 : Int)).toNat = 0 from rfl] at hx8_0); (try simp only [Nat.reduceMul, Nat.zero_mul, Nat.zero_add, Nat.reduceAdd] at hx8_0); (try rw [show ((0 : Int)).toNat = 0 from rfl] at hf8_0); (try simp only [Nat.reduceMul, Nat.zero_mul, Nat.zero_add, Nat.reduceAdd] at hf8_0); replace p8 := eq_true p8; replace q8 := eq_true q8; obtain ⟨hy12_, hz12_⟩ := Kd.R_celln 0 HO205.out (0 : Int) t46_ (of_decide_eq_true t0_); (try simp only [Int.reduceToNat, Int.toNat_zero, Int.toNat_ofNat, Nat.reduceMul, Nat.zero_mul, Nat.zero_add] at hy12_ hz12_); (try rw [show ((0 : Int)).toNat = 0 from rfl] at hy12_); (try rw [show ((0 : Int)).toNat = 0 from rfl] at hz12_); have HP12 := Kd.R_putg HO205.out (0 : Int) 1) | ((with_reducible refine gate_store (t := 3) (p := 18) rfl ?_); refine store_event (t := 3) (p := 18) (v := ?vo_w13) (w1 := (w10.setCell ⟨go8, (0 : Int).toNat, none⟩ (.int .i64 1))) ?hg ?ho ?hn ?hr ?_; (case ho => rfl); (case hg => rfl); (case hn => rfl); (case hr => first | (go_simp; done) | (go_simp; rfl)); intro w13 hw; have hg : w10.grownBy w13 (some go8) := (by rw [hw]; exact HP12.2); have hp_ : Kd.R (Kd.int .i64) 3 w13 w.heap.size (fun _ => True) (.slice (some ⟨go8, 0, none⟩) y203.length co8) y206 := (by rw [hw, Ny206.out]; exact HP12.1); clear HP12; have n0_ := a_ (hp_); have n1_ := a_ ((by rw [hw]; exact below_set (HB.out) GB8.out : Below w.heap.size w w13)); clear HO205; clear HB; have HO205 := n0_; have HB := n1_; clear n0_ n1_; clear hg hw hp_) | ((with_reducible refine gate_callee (f := 55) rfl ?_); refine goesL_ (some 19) rfl rfl Try.func55 t1_ rfl #[] rfl t28_ ?_; (with_reducible refine (spec_daAll.calls k  t207 _ A9.out).mono ?_); rintro e w14 ⟨v208, rfl, ho0, hb⟩; refine ⟨_, rfl, ?_⟩; have n0_ := a_ (Kd.R_below (R_ HO205.out) hb); have n1_ := a_ (Kd.R_lower ho0 (below_size (L_ HB.out (Nat.le_refl _) (Nat.le_refl _) (Nat.le_refl _)))); have n2_ := a_ (below_step (L_ HB.out (Nat.le_refl _) (Nat.le_refl _) (Nat.le_refl _)) hb); clear HO205; clear HB; have HO205 := n0_; have HO209 := n1_; have HB := n2_; clear n0_ n1_ n2_; (try clear hb); (try clear hb2); (try clear hk); (try clear hi); (try clear ho0)))
    go_loopg [7, 9] k (fun kq v7 v9 w' => ∃ (x7_1 : List Int) (x9_1 : Int), v9 = .int .i64 x9_1 ∧ Aside0 (spec_daCount.l0 kq a0 a1 a2 x7_1 t207 x9_1 = some r) ∧ Aside0 (kq ≤ k) ∧ Aside0 (Kd.R (Kd.int .i64) 3 w' w.heap.size (fun _ => True) v7 x7_1) ∧ Aside0 (Kd.R k43 43 w' w.heap.size (fun _ => True) v208 t207) ∧ Aside0 (Below w.heap.size w w'))
    case atStart => exact ⟨(y206), (1), t2_, H', ⟨Nat.le_refl _⟩, ⟨R_ HO205.out⟩, ⟨R_ HO209.out⟩, ⟨L_ HB.out (Nat.le_refl _) (Nat.le_refl _) (Nat.le_refl _)⟩⟩
    case round =>
     clear H'; obtain ⟨x7_1, x9_1, rfl, HA, HK1, HO_7, HO_8, HB⟩ := hrel
     cases gk with
     | zero => exact absurd HA.out (by simp [spec_daCount.l0])
     | succ k1 =>
      have H := HA.out; clear HA; simp only [spec_daCount.l0] at H
      by_cases c15 : x9_1 ≤ a0
      ·
       rw [if_pos c15] at H; have c15b0 : decide (x9_1 ≤ a0) = true := decide_eq_true c15; clear c15; obtain ⟨ji16, hji16⟩ : ∃ j_ : Int, (wrap64 (a1 + 1)) = j_ := ⟨_, rfl⟩; replace H : (if 0 ≤ (ji16) then (if (ji16 : Int).toNat ≤ 35184372088832 then (spec_daCount.l1 k1 a0 a1 a2 x7_1 t207 x9_1 (List.replicate (ji16 : Int).toNat 0) t207 (t207.length : Int) 0) else (none)) else (none)) = some r := by first | (rw [hji16] at H; exact H) | (simp only [hji16] at H ⊢; exact H)
       have hji16w : (IntKind.i64.wrap (a1 + 1)) = ji16 := (i64_w _).trans hji16; have eji_ : ji16 = ji4 := hji16.symm.trans hji4; subst eji_
       by_cases c17 : 0 ≤ (ji16)
       ·
        rw [if_pos c17] at H; have c17b0 := eq_true c17; have c17b1 : decide (0 ≤ (ji16)) = true := decide_eq_true c17; clear c17
        by_cases c18 : (ji16 : Int).toNat ≤ 35184372088832
        ·
         rw [if_pos c18] at H; have c18b0 := eq_true c18; have c18b1 : decide ((ji16 : Int).toNat ≤ 35184372088832) = true := decide_eq_true c18; clear c18; obtain ⟨y210, hy210⟩ : ∃ y_ : List Int, y_ = (List.replicate (ji16 : Int).toNat 0) := ⟨_, rfl⟩; replace H : (spec_daCount.l1 k1 a0 a1 a2 x7_1 t207 x9_1 y210 t207 (t207.length : Int) 0) = some r := by first | (rw [hy210]; with_reducible exact H) | (have H2_ := (Option.bind_some _ _).symm.trans H; rw [hy210]; with_reducible exact H2_) | (have H2_ := (Option.bind_some _ _).symm.trans H; with_reducible exact H2_) | with_reducible exact H | (rw [hy210]; exact H) | exact H
         have Ny210 := a_ hy210; clear hy210; have H' := a_ H; clear H
         go_wp2_with (first | ((with_reducible refine gate_dst (N := 27) rfl ?_); refine Kd.R_make (Kd.int .i64) _ 3 rfl (N := 27) rfl 33 _ _ rfl ji16 rfl rfl Try.underlying33 (.int .i64 0) 8 info3 rfl t29_ t46_ 0 (ok := fun _ => True) (okp := fun _ => True) rfl (fun _ hk => hk) trivial (of_decide_eq_true t0_) (Nat.le_trans (Nat.mul_le_mul_right _ (of_decide_eq_true t0_ : ji16.toNat ≤ 35184372088832)) t46_) (Below.refl _ _) (Nat.le_refl _) ?_; intro v211 w19 ho20 hb hg_ hnew_; clear hg_ hnew_; (first | rw [← Ny210.out] at ho20 | (simp only [Int.reduceToNat] at ho20; rw [← Ny210.out] at ho20)); have n0_ := a_ (Kd.R_elder' (R_ HO_7.out) (Kd.R_base ho20) hb); have n1_ := a_ (Kd.R_below (R_ HO_8.out) hb); have n2_ := a_ (Kd.R_lower (Kd.R_new' ho20 (Kd.R_lt (R_ HO_7.out))) (below_size (L_ HB.out (Nat.le_refl _) (Nat.le_refl _) (Nat.le_refl _)))); have n3_ := a_ (below_step (L_ HB.out (Nat.le_refl _) (Nat.le_refl _) (Nat.le_refl _)) hb); clear HO_7; clear HO_8; clear HB; have HO_7 := n0_; have HO_8 := n1_; have HO212 := n2_; have HB := n3_; clear n0_ n1_ n2_ n3_; clear hb ho20; obtain ⟨Ao21, co21, eo21⟩ := Kd.R_slice HO_8.out; subst eo21))
         go_loopg [30] k1 (fun kq v30 w' => ∃ (x10_2 : List Int) (x30_2 : Int), v30 = .int .i64 x30_2 ∧ Aside0 (spec_daCount.l1 kq a0 a1 a2 x7_1 t207 x9_1 x10_2 t207 (t207.length : Int) x30_2 = some r) ∧ Aside0 (kq ≤ k1) ∧ Aside0 (Kd.R (Kd.int .i64) 3 w' w.heap.size (fun k_ => some k_ ≠ (v211 : Value).ownBlock) u7 x7_1) ∧ Aside0 (Kd.R k43 43 w' w.heap.size (fun _ => True) (.slice Ao21 t207.length co21) t207) ∧ Aside0 (Kd.R (Kd.int .i64) 3 w' w.heap.size (fun k_ => some k_ ≠ (u7 : Value).ownBlock) v211 x10_2) ∧ Aside0 (Kd.R k43 43 w' w.heap.size (fun _ => True) (.slice Ao21 t207.length co21) t207) ∧ Aside0 (Below w.heap.size w w'))
         case atStart => exact ⟨(y210), (0), t2_, H', ⟨Nat.le_refl _⟩, ⟨by (with_reducible repeat (first | apply Kd.R_alloc | apply Kd.R_drewN | apply Kd.R_drew)); exact Kd.R_mono HO_7.out (fun _ hk => hk.2)⟩, ⟨R_ HO_8.out⟩, ⟨by (with_reducible repeat (first | apply Kd.R_alloc | apply Kd.R_drewN | apply Kd.R_drew)); exact Kd.R_mono HO212.out (fun _ hk => hk.2)⟩, ⟨R_ HO_8.out⟩, ⟨L_ HB.out (Nat.le_refl _) (Nat.le_refl _) (Nat.le_refl _)⟩⟩
         case round =>
          clear H'; obtain ⟨x10_2, x30_2, rfl, HA, HK2, HO_7, HO_8, HO_10, HO_28, HB⟩ := hrel
          cases gk with
          | zero => exact absurd HA.out (by simp [spec_daCount.l1])
          | succ k2 =>
           have H := HA.out; clear HA; simp only [spec_daCount.l1] at H
           by_cases c22 : x30_2 < (t207.length : Int)
           ·
            rw [if_pos c22] at H; have c22b0 : decide (x30_2 < (t207.length : Int)) = true := decide_eq_true c22; clear c22
            by_cases c23 : 0 ≤ x30_2
            ·
             rw [if_pos c23] at H; have c23b0 : decide (0 ≤ x30_2) = true := decide_eq_true c23; clear c23
             by_cases c24 : x30_2 < (t207.length : Int)
             ·
              rw [if_pos c24] at H; have c24b0 : decide (x30_2 < (t207.length : Int)) = true := decide_eq_true c24; clear c24; have HC25 := a_ H; clear H; have p213 : 0 ≤ (x30_2 : Int) := of_decide_eq_true t0_; have q213 : x30_2 < (t207.length : Int) := of_decide_eq_true t0_; obtain ⟨ad213, e213, hx213_0, hx213_1⟩ := at_T43 (Kd.R_reads' HO_28.out).2.2 x30_2 p213 q213
              cases e213
              replace p213 := eq_true p213; replace q213 := eq_true q213
              go_upto_region 11 with (first | ((with_reducible refine gate_dst (N := 12) rfl ?_); refine box_event ?hg (N := 12) ?hd (cs := #[.int .i64 0, .int .i64 0]) (t := 43) ?hr ?_; (case hd => rfl); (case hg => rfl); (case hr => first | (go_simp; done) | (go_simp; rfl)); intro gb214 hg w26 hbox hb; have n0_ := a_ (Kd.R_below (R_ HO_7.out) hb); have n1_ := a_ (Kd.R_below (Kd.R_elderB (R_ HO_8.out) gb214 (Nat.le_of_eq hg.symm)) hb); have n2_ := a_ (Kd.R_below (R_ HO_10.out) hb); have n3_ := a_ (Kd.R_below (Kd.R_elderB (R_ HO_28.out) gb214 (Nat.le_of_eq hg.symm)) hb); have n4_ := a_ (below_step (L_ HB.out (Nat.le_refl _) (Nat.le_refl _) (Nat.le_refl _)) hb); have n5_ := a_ (hbox); have n6_ := a_ ((by rw [hg]; exact (below_size (L_ HB.out (Nat.le_refl _) (Nat.le_refl _) (Nat.le_refl _))) : w.heap.size ≤ gb214)); have n7_ := a_ ((by rw [hg]; exact (below_size (L_ HB.out (Nat.le_refl _) (Nat.le_refl _) (Nat.le_refl _))) : w.heap.size ≤ gb214)); clear HO_7; clear HO_8; clear HO_10; clear HO_28; clear HB; have HO_7 := n0_; have HO_8 := n1_; have HO_10 := n2_; have HO_28 := n3_; have HB := n4_; have BK214 := n5_; have GW214 := n6_; have GE214 := n7_; clear n0_ n1_ n2_ n3_ n4_ n5_ n6_ n7_; clear hb hbox hg; have hcz27_0 : w26.cell? ⟨gb214, 0, none⟩ = some (.int .i64 0) := c_ BK214.out 0; have hcz27_1 : w26.cell? ⟨gb214, 1, none⟩ = some (.int .i64 0) := c_ BK214.out 1; have hfz27_0 := blk_frozen BK214.out 0; have hfz27_1 := blk_frozen BK214.out 1))
              (try simp only [Act.put, List.setIfInBounds_toArray, List.set_cons_zero, List.set_cons_succ])
              go_cut [44] (fun v44 wc => ∃ (kq : Nat) (x44_24 : Bool), v44 = .bool x44_24 ∧ Aside0 (spec_daCount.j2 kq a0 a1 a2 x7_1 t207 x9_1 x10_2 t207 (t207.length : Int) x30_2 x44_24 ((rd_T43 t207 x30_2).f0) ((rd_T43 t207 x30_2).f1) = some r) ∧ Aside0 (kq ≤ k2) ∧ Aside0 (Kd.R (Kd.int .i64) 3 wc w.heap.size (fun k_ => some k_ ≠ (v211 : Value).ownBlock) u7 x7_1) ∧ Aside0 (Kd.R k43 43 wc w.heap.size (fun k_ => k_ ≠ gb214) (.slice (some ad213) t207.length co21) t207) ∧ Aside0 (Kd.R (Kd.int .i64) 3 wc w.heap.size (fun k_ => some k_ ≠ (u7 : Value).ownBlock) v211 x10_2) ∧ Aside0 (Kd.R k43 43 wc w.heap.size (fun k_ => k_ ≠ gb214) (.slice (some ad213) t207.length co21) t207) ∧ Aside0 (wc.heap[gb214]? = some (.cells #[.int .i64 ((rd_T43 t207 x30_2).f0), .int .i64 ((rd_T43 t207 x30_2).f1)] 43 (0, 0))) ∧ Aside0 (Below w.heap.size w wc))
              case first =>
               have H := HC25.out; clear HC25
               by_cases c28 : a2 = true
               ·
                subst c28; have H1 : (if x9_1 = a0 then (spec_daCount.j2 k2 a0 a1 true x7_1 t207 x9_1 x10_2 t207 (t207.length : Int) x30_2 (((rd_T43 t207 x30_2).f1) != 2) ((rd_T43 t207 x30_2).f0) ((rd_T43 t207 x30_2).f1)) else (spec_daCount.j2 k2 a0 a1 true x7_1 t207 x9_1 x10_2 t207 (t207.length : Int) x30_2 false ((rd_T43 t207 x30_2).f0) ((rd_T43 t207 x30_2).f1))) = some r := by rw [if_pos rfl] at H; exact H
                clear H; have H := H1; clear H1
                by_cases c29 : x9_1 = a0
                ·
                 rw [if_pos c29] at H; have c29b0 : (x9_1 == a0) = true := beq_iff_eq.mpr c29; have c29b1 : (x9_1 != a0) = false := bne_eq_false_iff_eq.mpr c29; clear c29
                 (first | rw [c29b0] | (simp only [i64_w, i32_w]; rw [c29b0]) | skip)
                 have H' := a_ H; clear H; have hcz30_0 : w26.cell? ⟨gb214, 0, none⟩ = some (.int .i64 0) := c_ BK214.out 0; have hcz30_1 : w26.cell? ⟨gb214, 1, none⟩ = some (.int .i64 0) := c_ BK214.out 1; have hfz30_0 := blk_frozen BK214.out 0; have hfz30_1 := blk_frozen BK214.out 1
                 go_wp2
                 go_meet
                 case rel => exact ⟨_, ((((rd_T43 t207 x30_2).f1) != 2)), t2_, H', ⟨t45_⟩, ⟨t23_⟩, ⟨t17_⟩, ⟨t22_⟩, ⟨t15_⟩, ⟨t19_⟩, ⟨L_ HB.out GE214.out GE214.out GE214.out⟩⟩
                ·
                 rw [if_neg c29] at H; have c29b0 : (x9_1 == a0) = false := beq_eq_false_iff_ne.mpr c29; have c29b1 : (x9_1 != a0) = true := bne_iff_ne.mpr c29
                 (first | rw [c29b0] | (simp only [i64_w, i32_w]; rw [c29b0]) | skip)
                 have H' := a_ H; clear H
                 go_wp2
                 go_meet
                 case rel => exact ⟨_, (false), t2_, H', ⟨t45_⟩, ⟨t23_⟩, ⟨t17_⟩, ⟨t22_⟩, ⟨t15_⟩, ⟨t19_⟩, ⟨L_ HB.out GE214.out GE214.out GE214.out⟩⟩
               ·
                replace c28 := Bool.eq_false_iff.mpr c28; subst c28; have H1 : (spec_daCount.j2 k2 a0 a1 false x7_1 t207 x9_1 x10_2 t207 (t207.length : Int) x30_2 false ((rd_T43 t207 x30_2).f0) ((rd_T43 t207 x30_2).f1)) = some r := by rw [if_neg (show ¬ (false = true) by decide)] at H; exact H
                clear H; have H := H1; clear H1; have H' := a_ H; clear H
                go_wp2
                go_meet
                case rel => exact ⟨_, (false), t2_, H', ⟨t45_⟩, ⟨t23_⟩, ⟨t17_⟩, ⟨t22_⟩, ⟨t15_⟩, ⟨t19_⟩, ⟨L_ HB.out GE214.out GE214.out GE214.out⟩⟩
              case rest =>
               clear HC25; obtain ⟨kq, x44_24, rfl, HA, HJ24, HO_7, HO_8, HO_10, HO_28, BK214, HB⟩ := hcut
               cases kq with
               | zero => exact absurd HA.out (by simp [spec_daCount.j2])
               | succ kj24 =>
                have H := HA.out; clear HA; simp only [spec_daCount.j2] at H
                by_cases c31 : x44_24 = true
                ·
                 subst c31; have H1 : (spec_daCount.l1 kj24 a0 a1 a2 x7_1 t207 x9_1 x10_2 t207 (t207.length : Int) (wrap64 (x30_2 + 1))) = some r := by rw [if_pos rfl] at H; exact H
                 clear H; have H := H1; clear H1; have H' := a_ H; clear H
                 go_wp2
                 go_roundg kj24
                 case measure => have := HK1.out; have := HK2.out; have := HJ24.out; omega
                 case rel => exact ⟨(x10_2), (wrap64 (x30_2 + 1)), t2_, H', ⟨by have := HK1.out; have := HK2.out; have := HJ24.out; omega⟩, ⟨R_ HO_7.out⟩, ⟨t36_⟩, ⟨R_ HO_10.out⟩, ⟨t57_⟩, ⟨L_ HB.out GE214.out GE214.out GE214.out⟩⟩
                ·
                 replace c31 := Bool.eq_false_iff.mpr c31; subst c31; have H1 : (spec_daCount.l2 kj24 a0 a1 a2 x7_1 t207 x9_1 x10_2 (wrap64 (((rd_T43 t207 x30_2).f0) * ((rd_T43 t207 x30_2).f1))) t207 (t207.length : Int) x30_2 ((rd_T43 t207 x30_2).f0) ((rd_T43 t207 x30_2).f1)) = some r := by rw [if_neg (show ¬ (false = true) by decide)] at H; exact H
                 clear H; have H := H1; clear H1; have H' := a_ H; clear H; have hcz32_0 : wc.cell? ⟨gb214, 0, none⟩ = some (.int .i64 ((rd_T43 t207 x30_2).f0)) := c_ BK214.out 0; have hcz32_1 : wc.cell? ⟨gb214, 1, none⟩ = some (.int .i64 ((rd_T43 t207 x30_2).f1)) := c_ BK214.out 1; have hfz32_0 := blk_frozen BK214.out 0; have hfz32_1 := blk_frozen BK214.out 1
                 go_wp2
                 go_loopg [13] kj24 (fun kq v13 w' => ∃ (x10_4 : List Int) (x13_4 : Int), v13 = .int .i64 x13_4 ∧ Aside0 (spec_daCount.l2 kq a0 a1 a2 x7_1 t207 x9_1 x10_4 x13_4 t207 (t207.length : Int) x30_2 ((rd_T43 t207 x30_2).f0) ((rd_T43 t207 x30_2).f1) = some r) ∧ Aside0 (kq ≤ kj24) ∧ Aside0 (Kd.R (Kd.int .i64) 3 w' w.heap.size (fun k_ => some k_ ≠ (v211 : Value).ownBlock) u7 x7_1) ∧ Aside0 (Kd.R k43 43 w' w.heap.size (fun k_ => k_ ≠ gb214) (.slice (some ad213) t207.length co21) t207) ∧ Aside0 (Kd.R (Kd.int .i64) 3 w' w.heap.size (fun k_ => some k_ ≠ (u7 : Value).ownBlock) v211 x10_4) ∧ Aside0 (Kd.R k43 43 w' w.heap.size (fun k_ => k_ ≠ gb214) (.slice (some ad213) t207.length co21) t207) ∧ Aside0 (w'.heap[gb214]? = some (.cells #[.int .i64 ((rd_T43 t207 x30_2).f0), .int .i64 ((rd_T43 t207 x30_2).f1)] 43 (0, 0))) ∧ Aside0 (Below w.heap.size w w'))
                 case atStart => exact ⟨(x10_2), (wrap64 (((rd_T43 t207 x30_2).f0) * ((rd_T43 t207 x30_2).f1))), t2_, H', ⟨Nat.le_refl _⟩, ⟨R_ HO_7.out⟩, ⟨R_ HO_8.out⟩, ⟨R_ HO_10.out⟩, ⟨R_ HO_28.out⟩, ⟨B_ BK214.out⟩, ⟨L_ HB.out GE214.out GE214.out GE214.out⟩⟩
                 case round =>
                  clear H'; obtain ⟨x10_4, x13_4, rfl, HA, HK4, HO_7, HO_8, HO_10, HO_28, BK214, HB⟩ := hrel
                  cases gk with
                  | zero => exact absurd HA.out (by simp [spec_daCount.l2])
                  | succ k4 =>
                   have H := HA.out; clear HA; simp only [spec_daCount.l2] at H
                   by_cases c33 : x13_4 ≤ a1
                   ·
                    rw [if_pos c33] at H; have c33b0 : decide (x13_4 ≤ a1) = true := decide_eq_true c33; clear c33
                    by_cases c34 : 0 ≤ x13_4
                    ·
                     rw [if_pos c34] at H; have c34b0 : decide (0 ≤ x13_4) = true := decide_eq_true c34; clear c34
                     by_cases c35 : x13_4 < (x10_4.length : Int)
                     ·
                      rw [if_pos c35] at H; have c35b0 : decide (x13_4 < (x10_4.length : Int)) = true := decide_eq_true c35; clear c35; obtain ⟨ji36, hji36⟩ : ∃ j_ : Int, (wrap64 (x13_4 - (wrap64 (((rd_T43 t207 x30_2).f0) * ((rd_T43 t207 x30_2).f1))))) = j_ := ⟨_, rfl⟩; replace H : (if 0 ≤ (ji36) then (if (ji36) < (x7_1.length : Int) then (spec_daCount.l2 k4 a0 a1 a2 x7_1 t207 x9_1 (x10_4.set (x13_4 : Int).toNat (wrap64 ((rd x10_4 x13_4) + (rd x7_1 (ji36))))) (wrap64 (x13_4 + 1)) t207 (t207.length : Int) x30_2 ((rd_T43 t207 x30_2).f0) ((rd_T43 t207 x30_2).f1)) else (none)) else (none)) = some r := by first | (rw [hji36] at H; exact H) | (simp only [hji36] at H ⊢; exact H)
                      have hji36w : (IntKind.i64.wrap (x13_4 - (wrap64 (((rd_T43 t207 x30_2).f0) * ((rd_T43 t207 x30_2).f1))))) = ji36 := (i64_w _).trans hji36
                      by_cases c37 : 0 ≤ (ji36)
                      ·
                       rw [if_pos c37] at H; have c37b0 : decide (0 ≤ (ji36)) = true := decide_eq_true c37; clear c37
                       by_cases c38 : (ji36) < (x7_1.length : Int)
                       ·
                        rw [if_pos c38] at H; have c38b0 : decide ((ji36) < (x7_1.length : Int)) = true := decide_eq_true c38; clear c38; obtain ⟨y217, hy217⟩ : ∃ y_ : List Int, y_ = (x10_4.set (x13_4 : Int).toNat (wrap64 ((rd x10_4 x13_4) + (rd x7_1 (ji36))))) := ⟨_, rfl⟩; replace H : (spec_daCount.l2 k4 a0 a1 a2 x7_1 t207 x9_1 y217 (wrap64 (x13_4 + 1)) t207 (t207.length : Int) x30_2 ((rd_T43 t207 x30_2).f0) ((rd_T43 t207 x30_2).f1)) = some r := by first | (rw [hy217]; with_reducible exact H) | (have H2_ := (Option.bind_some _ _).symm.trans H; rw [hy217]; with_reducible exact H2_) | (have H2_ := (Option.bind_some _ _).symm.trans H; with_reducible exact H2_) | with_reducible exact H | (rw [hy217]; exact H) | exact H
                        have Ny217 := a_ hy217; clear hy217; have H' := a_ H; clear H
                        try go_wp2
                        have n0_ := a_ (Kd.R_drew HO_7.out); have n1_ := a_ (Kd.R_drew HO_8.out); have n2_ := a_ (Kd.R_drew HO_10.out); have n3_ := a_ (Kd.R_drew HO_28.out); have n4_ := a_ (blk_drew BK214.out); have n5_ := a_ (below_drew1 HB.out); clear HO_7; clear HO_8; clear HO_10; clear HO_28; clear BK214; clear HB; have HO_7 := n0_; have HO_8 := n1_; have HO_10 := n2_; have HO_28 := n3_; have BK214 := n4_; have HB := n5_; clear n0_ n1_ n2_ n3_ n4_ n5_; obtain ⟨Ao41, co41, eo41⟩ := Kd.R_slice HO_10.out
                        (first | subst eo41 | (injection eo41 with f1_ f2_ f3_; have f4_ := f1_.symm; have f5_ := f3_.symm; clear f1_ f2_ f3_; subst f4_; subst f5_))
                        have p215 : 0 ≤ (x13_4 : Int) := of_decide_eq_true t0_; have q215 : x13_4 < (x10_4.length : Int) := of_decide_eq_true t0_; obtain ⟨ad215, e215, hx215_0⟩ := Kd.at_int (Kd.R_reads' HO_10.out).2.2 x13_4 p215 q215
                        cases e215
                        replace p215 := eq_true p215; replace q215 := eq_true q215; obtain ⟨Ao42, co42, eo42⟩ := Kd.R_slice HO_7.out
                        (first | subst eo42 | (injection eo42 with f1_ f2_ f3_; have f4_ := f1_.symm; have f5_ := f3_.symm; clear f1_ f2_ f3_; subst f4_; subst f5_))
                        have p216 : 0 ≤ ((ji36) : Int) := of_decide_eq_true t0_; have q216 : (ji36) < (x7_1.length : Int) := of_decide_eq_true t0_; obtain ⟨ad216, e216, hx216_0⟩ := Kd.at_int (Kd.R_reads' HO_7.out).2.2 (ji36) p216 q216
                        cases e216
                        replace p216 := eq_true p216; replace q216 := eq_true q216; have p39 : 0 ≤ (x13_4 : Int) := of_decide_eq_true t0_; have q39 : (x13_4 : Int) < ((x10_4.length : Int) : Int) := of_decide_eq_true t0_; obtain ⟨go39, co39, eo39, gb39, gl39, cl39, HG39⟩ := Kd.R_form HO_10.out t46_
                        (first | cases eo39 | (injection eo39 with ea_ en_ ec_; (first | subst ea_ | (injection ea_ with ea_; subst ea_)); subst ec_; clear en_))
                        have GB39 := a_ gb39; have GG39 := a_ HG39; clear gb39 gl39 HG39
                        (first | simp only [add_plain] at hx215_0 | skip)
                        obtain ⟨hx39_0, hf39_0⟩ := Kd.R_celln 0 HO_10.out (x13_4 : Int) p39 q39; replace p39 := eq_true p39; replace q39 := eq_true q39; have HP43 := Kd.R_putn HO_10.out (x13_4 : Int) (wrap64 ((rd x10_4 x13_4) + (rd x7_1 (ji36)))); rw [← Ny217.out] at HP43; have HQ43 := a_ HP43; clear HP43
                        refine start_ (n := 17) (S := fun w' => w'.cell? ⟨gb214, 0, none⟩ = some (.int .i64 ((rd_T43 t207 x30_2).f0)) ∧ w'.cell? ⟨gb214, 1, none⟩ = some (.int .i64 ((rd_T43 t207 x30_2).f1)) ∧ w'.cell? ⟨go39, (x13_4).toNat, none⟩ = some (.int .i64 (rd x10_4 x13_4)) ∧ w'.cell? (ad216.add ((ji36)).toNat) = some (.int .i64 (rd x7_1 (ji36)))) (ds := [16]) #[false, false, false, false, false, false, false, false, false, false, false, false, false, false, false, false, false] t1_ rfl rfl ⟨c_ BK214.out 0, c_ BK214.out 1, hx215_0, hx216_0⟩ (fun hHeld => ?_); refine with_tabW spec_daCount.tab15 spec_daCount.bits15 (fun HT_ HW_ => ?_)
                        generalize wr.drew = w40 at HO_7 HO_8 HO_10 HO_28 BK214 HB GG39 HQ43 hf39_0 hx215_0 hx216_0 hx39_0 hHeld ⊢
                        refine pure_ (i := 0) (N := some 55) (v := ?_) (a' := ?_) #[true, false, false, false, false, false, false, false, false, false, false, false, false, false, false, false, false] rfl rfl (any_of HT_.out t1_) (fun _ _ _ h => h) (Or.inl ⟨by rfl, ?_⟩) ?_ ?_
                        rotate_left
                        ·
                         intro w'
                         go_simp
                         with_reducible rfl
                        rotate_left
                        ·
                         simp only [Act.put, List.setIfInBounds_toArray, List.set_cons_zero, List.set_cons_succ, i64_w, i32_w]
                         rfl
                        refine pure_ (i := 1) (N := some 56) (v := ?_) (a' := ?_) #[true, true, false, false, false, false, false, false, false, false, false, false, false, false, false, false, false] rfl rfl (any_of HT_.out t1_) (fun _ _ _ h => h) (Or.inl ⟨by rfl, ?_⟩) ?_ ?_
                        rotate_left
                        ·
                         intro w'
                         go_simp
                         with_reducible rfl
                        rotate_left
                        ·
                         simp only [Act.put, List.setIfInBounds_toArray, List.set_cons_zero, List.set_cons_succ, i64_w, i32_w]
                         rfl
                        refine pure_ (i := 2) (N := some 57) (v := ?_) (a' := ?_) #[true, true, true, false, false, false, false, false, false, false, false, false, false, false, false, false, false] rfl rfl (any_of HT_.out t1_) (fun _ _ _ h => h) (Or.inl ⟨by rfl, ?_⟩) ?_ ?_
                        rotate_left
                        ·
                         intro w'
                         go_simp
                         with_reducible rfl
                        rotate_left
                        ·
                         simp only [Act.put, List.setIfInBounds_toArray, List.set_cons_zero, List.set_cons_succ, i64_w, i32_w]
                         rfl
                        refine pure_ (i := 4) (N := some 59) (v := ?_) (a' := ?_) #[true, true, true, false, true, false, false, false, false, false, false, false, false, false, false, false, false] rfl rfl (any_of HT_.out t1_) (fun _ _ _ h => h) (Or.inl ⟨by rfl, ?_⟩) ?_ ?_
                        rotate_left
                        ·
                         intro w'
                         go_simp
                         with_reducible rfl
                        rotate_left
                        ·
                         simp only [Act.put, List.setIfInBounds_toArray, List.set_cons_zero, List.set_cons_succ, i64_w, i32_w]
                         rfl
                        refine pure_ (i := 5) (N := some 60) (v := ?_) (a' := ?_) #[true, true, true, false, true, true, false, false, false, false, false, false, false, false, false, false, false] rfl rfl (any_of HT_.out t1_) (fun _ _ _ h => h) (Or.inl ⟨by rfl, ?_⟩) ?_ ?_
                        rotate_left
                        ·
                         intro w'
                         go_simp
                         with_reducible rfl
                        rotate_left
                        ·
                         simp only [Act.put, List.setIfInBounds_toArray, List.set_cons_zero, List.set_cons_succ, i64_w, i32_w]
                         rfl
                        refine pure_ (i := 6) (N := some 61) (v := ?_) (a' := ?_) #[true, true, true, false, true, true, true, false, false, false, false, false, false, false, false, false, false] rfl rfl (any_of HT_.out t1_) (fun _ _ _ h => h) (Or.inl ⟨by rfl, ?_⟩) ?_ ?_
                        rotate_left
                        ·
                         intro w'
                         go_simp
                         with_reducible rfl
                        rotate_left
                        ·
                         simp only [Act.put, List.setIfInBounds_toArray, List.set_cons_zero, List.set_cons_succ, i64_w, i32_w]
                         rfl
                        refine pure_ (i := 8) (N := some 63) (v := ?_) (a' := ?_) #[true, true, true, false, true, true, true, false, true, false, false, false, false, false, false, false, false] rfl rfl (any_of HT_.out t1_) (fun _ _ _ h => h) (Or.inl ⟨by rfl, ?_⟩) ?_ ?_
                        rotate_left
                        ·
                         intro w'
                         go_simp
                         with_reducible rfl
                        rotate_left
                        ·
                         simp only [Act.put, List.setIfInBounds_toArray, List.set_cons_zero, List.set_cons_succ, i64_w, i32_w]
                         rfl
                        refine take_ (i := 3) (N := some 58) (v := ?_) (a' := ?_) #[true, true, true, true, true, true, true, false, true, false, false, false, false, false, false, false, false] rfl rfl (take_ofW HT_.out HW_.out t1_) (fun _ _ _ h => h) (Or.inl ⟨by rfl, ?_⟩) hHeld ?_ ?_
                        rotate_left
                        ·
                         rintro w' ⟨s0, s1, s2, s3⟩
                         go_simp
                         with_reducible rfl
                        rotate_left
                        ·
                         simp only [Act.put, List.setIfInBounds_toArray, List.set_cons_zero, List.set_cons_succ, i64_w, i32_w]
                         rfl
                        refine take_ (i := 7) (N := some 62) (v := ?_) (a' := ?_) #[true, true, true, true, true, true, true, true, true, false, false, false, false, false, false, false, false] rfl rfl (take_ofW HT_.out HW_.out t1_) (fun _ _ _ h => h) (Or.inl ⟨by rfl, ?_⟩) hHeld ?_ ?_
                        rotate_left
                        ·
                         rintro w' ⟨s0, s1, s2, s3⟩
                         go_simp
                         with_reducible rfl
                        rotate_left
                        ·
                         simp only [Act.put, List.setIfInBounds_toArray, List.set_cons_zero, List.set_cons_succ, i64_w, i32_w]
                         rfl
                        refine take_ (i := 9) (N := some 64) (v := ?_) (a' := ?_) #[true, true, true, true, true, true, true, true, true, true, false, false, false, false, false, false, false] rfl rfl (take_ofW HT_.out HW_.out t1_) (fun _ _ _ h => h) (Or.inl ⟨by rfl, ?_⟩) hHeld ?_ ?_
                        rotate_left
                        ·
                         rintro w' ⟨s0, s1, s2, s3⟩
                         go_simp
                         with_reducible rfl
                        rotate_left
                        ·
                         simp only [Act.put, List.setIfInBounds_toArray, List.set_cons_zero, List.set_cons_succ, i64_w, i32_w]
                         rfl
                        refine pure_ (i := 10) (N := some 65) (v := ?_) (a' := ?_) #[true, true, true, true, true, true, true, true, true, true, true, false, false, false, false, false, false] rfl rfl (any_of HT_.out t1_) (fun _ _ _ h => h) (Or.inl ⟨by rfl, ?_⟩) ?_ ?_
                        rotate_left
                        ·
                         intro w'
                         go_simp
                         with_reducible rfl
                        rotate_left
                        ·
                         simp only [Act.put, List.setIfInBounds_toArray, List.set_cons_zero, List.set_cons_succ, i64_w, i32_w]
                         rfl
                        refine pure_ (i := 11) (N := some 66) (v := ?_) (a' := ?_) #[true, true, true, true, true, true, true, true, true, true, true, true, false, false, false, false, false] rfl rfl (any_of HT_.out t1_) (fun _ _ _ h => h) (Or.inl ⟨by rfl, ?_⟩) ?_ ?_
                        rotate_left
                        ·
                         intro w'
                         go_simp
                         with_reducible rfl
                        rotate_left
                        ·
                         simp only [Act.put, List.setIfInBounds_toArray, List.set_cons_zero, List.set_cons_succ, i64_w, i32_w]
                         rfl
                        refine pure_ (i := 12) (N := some 67) (v := ?_) (a' := ?_) #[true, true, true, true, true, true, true, true, true, true, true, true, true, false, false, false, false] rfl rfl (any_of HT_.out t1_) (fun _ _ _ h => h) (Or.inl ⟨by rfl, ?_⟩) ?_ ?_
                        rotate_left
                        ·
                         intro w'
                         go_simp
                         with_reducible rfl
                        rotate_left
                        ·
                         simp only [Act.put, List.setIfInBounds_toArray, List.set_cons_zero, List.set_cons_succ, i64_w, i32_w]
                         rfl
                        refine take_ (i := 13) (N := some 68) (v := ?_) (a' := ?_) #[true, true, true, true, true, true, true, true, true, true, true, true, true, true, false, false, false] rfl rfl (take_ofW HT_.out HW_.out t1_) (fun _ _ _ h => h) (Or.inl ⟨by rfl, ?_⟩) hHeld ?_ ?_
                        rotate_left
                        ·
                         rintro w' ⟨s0, s1, s2, s3⟩
                         go_simp
                         with_reducible rfl
                        rotate_left
                        ·
                         simp only [Act.put, List.setIfInBounds_toArray, List.set_cons_zero, List.set_cons_succ, i64_w, i32_w]
                         rfl
                        refine pure_ (i := 14) (N := some 69) (v := ?_) (a' := ?_) #[true, true, true, true, true, true, true, true, true, true, true, true, true, true, true, false, false] rfl rfl (any_of HT_.out t1_) (fun _ _ _ h => h) (Or.inl ⟨by rfl, ?_⟩) ?_ ?_
                        rotate_left
                        ·
                         intro w'
                         go_simp
                         with_reducible rfl
                        rotate_left
                        ·
                         simp only [Act.put, List.setIfInBounds_toArray, List.set_cons_zero, List.set_cons_succ, i64_w, i32_w]
                         rfl
                        refine pure_ (i := 15) (N := some 70) (v := ?_) (a' := ?_) #[true, true, true, true, true, true, true, true, true, true, true, true, true, true, true, true, false] rfl rfl (any_of HT_.out t1_) (fun _ _ _ h => h) (Or.inl ⟨by rfl, ?_⟩) ?_ ?_
                        rotate_left
                        ·
                         intro w'
                         go_simp
                         with_reducible rfl
                        rotate_left
                        ·
                         simp only [Act.put, List.setIfInBounds_toArray, List.set_cons_zero, List.set_cons_succ, i64_w, i32_w]
                         rfl
                        refine last_ (i := 16) (N := none) #[true, true, true, true, true, true, true, true, true, true, true, true, true, true, true, true, true] rfl rfl (one_of HT_.out t1_) t29_ (fun K hK => ?_)
                        refine skip_ (w1 := ?_) (by rfl) rfl ?_ ?_
                        rotate_left
                        ·
                         go_simp
                         rfl
                        refine hK.out _ _ ?_
                        clear hK K
                        refine done_ (done_of HT_.out t1_) ?_
                        try go_wp2
                        go_roundg k4
                        case measure => have := HK1.out; have := HK2.out; have := HJ24.out; have := HK4.out; omega
                        case rel => exact ⟨(y217), (wrap64 (x13_4 + 1)), t2_, H', ⟨by have := HK1.out; have := HK2.out; have := HJ24.out; have := HK4.out; omega⟩, ⟨by (with_reducible repeat (first | apply Kd.R_alloc | apply Kd.R_drewN | apply Kd.R_drew)); exact Kd.R_mono (Kd.R_far (p := ⟨go39, (x13_4 : Int).toNat, none⟩) (Kd.R_mono HO_7.out (fun k_ hk => (⟨hk, fun e_ => hk (by rw [e_]; rfl)⟩ : _ ∧ k_ ≠ go39))) (fun _ hk => hk.2) (.int .i64 (wrap64 ((rd x10_4 x13_4) + (rd x7_1 (ji36)))))) (fun _ hk => hk.1)⟩, ⟨by (with_reducible repeat (first | apply Kd.R_alloc | apply Kd.R_drewN | apply Kd.R_drew)); exact Kd.R_mono (Kd.R_far (p := ⟨go39, (x13_4 : Int).toNat, none⟩) (Kd.R_types HO_8.out GG39.out t29_) (fun _ hk => hk.2) (.int .i64 (wrap64 ((rd x10_4 x13_4) + (rd x7_1 (ji36)))))) (fun _ hk => hk.1)⟩, ⟨by (with_reducible repeat (first | apply Kd.R_alloc | apply Kd.R_drewN | apply Kd.R_drew)); exact HQ43.out⟩, ⟨by (with_reducible repeat (first | apply Kd.R_alloc | apply Kd.R_drewN | apply Kd.R_drew)); exact Kd.R_mono (Kd.R_far (p := ⟨go39, (x13_4 : Int).toNat, none⟩) (Kd.R_types HO_28.out GG39.out t29_) (fun _ hk => hk.2) (.int .i64 (wrap64 ((rd x10_4 x13_4) + (rd x7_1 (ji36)))))) (fun _ hk => hk.1)⟩, ⟨by (with_reducible repeat (first | refine blk_drewN ?_ _ | refine blk_drew ?_ | refine blk_alloc ?_ _)); refine blk_far ?_ (by have h_ := Kd.R_ne HO_10.out BK214.out t29_; intro e_; exact h_ (by rw [e_]; rfl)) _; exact B_ BK214.out⟩, ⟨by repeat (first | (with_reducible first | exact HB.out | apply below_alloc | apply pw_below_drewN | apply below_drew1 | refine below_set ?_ GB39.out | refine below_set ?_ GE214.out) | exact HB.out)⟩⟩
                       ·
                        rw [if_neg c38] at H
                        exact absurd H t31_
                      ·
                       rw [if_neg c37] at H
                       exact absurd H t31_
                     ·
                      rw [if_neg c35] at H
                      exact absurd H t31_
                    ·
                     rw [if_neg c34] at H
                     exact absurd H t31_
                   ·
                    rw [if_neg c33] at H; have c33b0 : decide (x13_4 ≤ a1) = false := decide_eq_false c33; clear c33; have H' := a_ H; clear H
                    go_wp2
                    go_roundg k4
                    case measure => have := HK1.out; have := HK2.out; have := HJ24.out; have := HK4.out; omega
                    case rel => exact ⟨(x10_4), (wrap64 (x30_2 + 1)), t2_, H', ⟨by have := HK1.out; have := HK2.out; have := HJ24.out; have := HK4.out; omega⟩, ⟨R_ HO_7.out⟩, ⟨t36_⟩, ⟨R_ HO_10.out⟩, ⟨t57_⟩, ⟨L_ HB.out GE214.out GE214.out GE214.out⟩⟩
             ·
              rw [if_neg c24] at H
              exact absurd H t31_
            ·
             rw [if_neg c23] at H
             exact absurd H t31_
           ·
            rw [if_neg c22] at H; have c22b0 : decide (x30_2 < (t207.length : Int)) = false := decide_eq_false c22; clear c22; have H' := a_ H; clear H
            go_wp2
            go_roundg k2
            case measure => have := HK1.out; have := HK2.out; omega
            case rel => exact ⟨(x10_2), (wrap64 (x9_1 + 1)), t2_, H', ⟨t41_⟩, ⟨by (with_reducible repeat (first | apply Kd.R_alloc | apply Kd.R_drewN | apply Kd.R_drew)); exact Kd.R_mono HO_10.out (fun _ hk => trivial)⟩, ⟨R_ HO_8.out⟩, ⟨L_ HB.out (Nat.le_refl _) (Nat.le_refl _) (Nat.le_refl _)⟩⟩
        ·
         rw [if_neg c18] at H
         exact absurd H t31_
       ·
        rw [if_neg c17] at H
        exact absurd H t31_
      ·
       rw [if_neg c15] at H; have c15b0 : decide (x9_1 ≤ a0) = false := decide_eq_false c15; clear c15; obtain rfl := Option.some.inj H
       go_wp2
       go_ret
       exact ⟨_, by first | rfl | (simp [errW_none, errW_some] <;> rfl) | (simp only [← hji4]; first | rfl | (simp [errW_none, errW_some] <;> rfl)) | (simp [*, errW_none, errW_some] <;> rfl), by (with_reducible repeat (first | apply Kd.R_alloc | apply Kd.R_drewN | apply Kd.R_drew)); exact HO_7.out, by repeat (first | (with_reducible first | exact HB.out | apply below_alloc | apply pw_below_drewN | apply below_drew1) | exact HB.out)⟩
   ·
    rw [if_neg c7] at H
    exact absurd H t31_
  ·
   rw [if_neg c6] at H
   exact absurd H t31_
 ·
  rw [if_neg c5] at H
  exact absurd H t31_
def spec_daFinishes.f (k : Nat) (a0 : Int) (a1 : Int) : Option (Int) := (spec_daCount.f k a1 a0 true).bind fun t218 => (if 0 ≤ a0 then (if a0 < (t218.length : Int) then (some (rd t218 a0)) else (none)) else (none))
set_option maxHeartbeats 8000000 in
set_option maxRecDepth 100000 in
theorem spec_daFinishes.calls (k : Nat) (a0 : Int) (a1 : Int) (r : Int) (w : World) (h : spec_daFinishes.f k a0 a1 = some r) :
  Calls Try.prog 39 #[.int .i64 a0, .int .i64 a1] w fun e w' => e = .returned (.int .i64 r) ∧ Below w.heap.size w w' := by
 have HB := a_ (Below.refl w.heap.size w); have H : ((spec_daCount.f k a1 a0 true).bind fun t218 => (if 0 ≤ a0 then (if a0 < (t218.length : Int) then (some (rd t218 a0)) else (none)) else (none))) = some r := h; clear h; replace H := Option.bind_eq_some_iff.mp H; obtain ⟨t218, A30, H⟩ := H; replace H : (if 0 ≤ a0 then (if a0 < (t218.length : Int) then (some (rd t218 a0)) else (none)) else (none)) = some r := H; have A3 := a_ A30; clear A30
 by_cases c4 : 0 ≤ a0
 ·
  rw [if_pos c4] at H; have c4b0 : decide (0 ≤ a0) = true := decide_eq_true c4; clear c4
  by_cases c5 : a0 < (t218.length : Int)
  ·
   rw [if_pos c5] at H; have c5b0 : decide (a0 < (t218.length : Int)) = true := decide_eq_true c5; clear c5; obtain rfl := Option.some.inj H
   go_enter Try.func39, Try.ntmps39
   go_wp2_with (first | ((with_reducible refine gate_callee (f := 46) rfl ?_); refine goesL_ (some 7) rfl rfl Try.func46 t1_ rfl #[.int .i64 a1, .int .i64 a0, .bool true] rfl (by (try simp only [m1_, m2_, m3_]); first | done | rfl) ?_; (with_reducible refine (spec_daCount.calls k a1 a0 true t218 _ A3.out).mono ?_); rintro e w6 ⟨v219, rfl, ho0, hb⟩; refine ⟨_, rfl, ?_⟩; have n0_ := a_ (Kd.R_lower ho0 (below_size (L_ HB.out (Nat.le_refl _) (Nat.le_refl _) (Nat.le_refl _)))); have n1_ := a_ (below_step (L_ HB.out (Nat.le_refl _) (Nat.le_refl _) (Nat.le_refl _)) hb); clear HB; have HO220 := n0_; have HB := n1_; clear n0_ n1_; (try clear hb); (try clear hb2); (try clear hk); (try clear hi); (try clear ho0); obtain ⟨Ao7, co7, eo7⟩ := Kd.R_slice HO220.out; subst eo7; have p221 : 0 ≤ (a0 : Int) := of_decide_eq_true t0_; have q221 : a0 < (t218.length : Int) := of_decide_eq_true t0_; obtain ⟨ad221, e221, hx221_0⟩ := Kd.at_int (Kd.R_reads' HO220.out).2.2 a0 p221 q221; cases e221; replace p221 := eq_true p221; replace q221 := eq_true q221))
   go_ret
   exact ⟨by first | rfl | (simp [errW_none, errW_some] <;> rfl) | (simp [*, errW_none, errW_some] <;> rfl), by repeat (first | (with_reducible first | exact HB.out | apply below_alloc | apply pw_below_drewN | apply below_drew1) | exact HB.out)⟩
  ·
   rw [if_neg c5] at H
   exact absurd H t31_
 ·
  rw [if_neg c4] at H
  exact absurd H t31_
end Go.Proofs.Ytacmfgbeaoalfaa.QFnDartsFinish
