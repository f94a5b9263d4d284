/- Functions of this law, printed out of the translation: what each computes, and that its code answers so. No condition. -/
import Derived.Test.YtacmfgbeaoalfaacQFnDartsFinishx0
import Derived.Test.YtacmfgbeaoalfaacQFnDartsFinishx3
import Derived.Test.YtacmfgbeaoalfaacQFnDartsFinishx4
import Derived.Test.YtacmfgbeaoalfaacQFnDartsFinishx5
import Derived.Test.YtacmfgbeaoalfaacGQ
namespace Go.Proofs.Ytacmfgbeaoalfaa.QFnDartsFinish
open Go.RowKit Go.Proofs.YtacmfgbeaoalfaaW.PrintWords Go.Proofs.YtacmfgbeaoalfaaW.PrintLast Go.Proofs.YtacmfgbeaoalfaaW.PrintMore Go.Proofs.Ytacmfgbeaoalfaa.Sh
attribute [local go_sem] max2_int min2_int max_two min_two max_three min_three max_four min_four
set_option linter.unusedVariables false
set_option linter.unusedSimpArgs false
mutual
def spec_daFirst.l0 : Nat → Int → Int → List (S43) → Int → Int → Option ((List (S43)))
 | 0, _, _, _, _, _ => none
 | k + 1, x0, x1, x8, x9, x10 => if x10 < x9 then (if 0 ≤ x10 then (if x10 < (x8.length : Int) then (if x1 = 1 then (if (wrap64 (x0 - (wrap64 (((rd_T43 x8 x10).f0) * ((rd_T43 x8 x10).f1))))) = 0 then (spec_daFirst.j1 k x0 x1 (wrap64 (x0 - (wrap64 (((rd_T43 x8 x10).f0) * ((rd_T43 x8 x10).f1))))) x8 x9 x10 (((rd_T43 x8 x10).f1) == 2) ((rd_T43 x8 x10).f0) ((rd_T43 x8 x10).f1)) else (spec_daFirst.j1 k x0 x1 (wrap64 (x0 - (wrap64 (((rd_T43 x8 x10).f0) * ((rd_T43 x8 x10).f1))))) x8 x9 x10 false ((rd_T43 x8 x10).f0) ((rd_T43 x8 x10).f1))) else (spec_daFirst.j1 k x0 x1 (wrap64 (x0 - (wrap64 (((rd_T43 x8 x10).f0) * ((rd_T43 x8 x10).f1))))) x8 x9 x10 false ((rd_T43 x8 x10).f0) ((rd_T43 x8 x10).f1))) else (none)) else (none)) else (some ([] : List (S43)))
def spec_daFirst.j1 : Nat → Int → Int → Int → List (S43) → Int → Int → Bool → Int → Int → Option ((List (S43)))
 | 0, _, _, _, _, _, _, _, _, _ => none
 | k + 1, x0, x1, x7, x8, x9, x10, x31, x227000, x227001 => if x31 = true then (some (([(⟨x227000, x227001⟩ : S43)] : List (S43)))) else (if x1 > 1 then (if x7 > 0 then ((spec_daFinishes.f k x7 (wrap64 (x1 - 1))).bind fun t230 => (if t230 > 0 then ((some (([(⟨x227000, x227001⟩ : S43)] : List (S43)) : List (S43))).bind fun y231 => ((spec_daFirst.f k x7 (wrap64 (x1 - 1))).bind fun t234 => (if y231.length + t234.length < 8796093022208 then (some (y231 ++ t234)) else (none)))) else (spec_daFirst.l0 k x0 x1 x8 x9 (wrap64 (x10 + 1))))) else (spec_daFirst.l0 k x0 x1 x8 x9 (wrap64 (x10 + 1)))) else (spec_daFirst.l0 k x0 x1 x8 x9 (wrap64 (x10 + 1))))
def spec_daFirst.f : Nat → Int → Int → Option ((List (S43)))
 | 0, _, _ => none
 | k + 1, a0, a1 => (spec_daAll.f k).bind fun t222 => (spec_daFirst.l0 k a0 a1 t222 (t222.length : Int) 0)
end
def spec_daFirst.T8 : Bool × List (List Nat × List Nat) := (true, [([], []), ([0], [0]), ([], []), ([], []), ([3], [3]), ([2, 4], [2, 4]), ([1, 5, 5], [1, 5]), ([6, 6, 0, 1, 2, 3, 4, 5, 6], [6])])
def spec_daFirst.B8 : List Nat := [0, 1, 0, 0, 8, 28, 63, 127]
theorem spec_daFirst.tab8 : rtab .any (opsOf Try.f40 8) = spec_daFirst.T8 := by kernel_rfl
theorem spec_daFirst.bits8 : waitsOk spec_daFirst.T8.2 spec_daFirst.B8 = true := by kernel_rfl
set_option maxHeartbeats 8000000 in
set_option maxRecDepth 100000 in
theorem spec_daFirst.calls (k : Nat) : ∀ (a0 : Int) (a1 : Int) (r : List (S43)) (w : World) (h : spec_daFirst.f k a0 a1 = some r),
  Calls Try.prog 40 #[.int .i64 a0, .int .i64 a1] w fun e w' => ∃ v0_ : Value, e = .returned (v0_) ∧ Kd.R k43 43 w' w.heap.size (fun _ => True) v0_ r ∧ Below w.heap.size w w' := by
 induction k using Nat.strongRecOn with
 | _ k ih =>
 intro a0 a1 r w h
 cases k with
 | zero => exact absurd h (by simp [spec_daFirst.f])
 | succ k =>
 simp only [spec_daFirst.f] at h; have hu43 := Try.underlying43; have HB := a_ (Below.refl w.heap.size w); have H : ((spec_daAll.f k).bind fun t222 => (spec_daFirst.l0 k a0 a1 t222 (t222.length : Int) 0)) = some r := h; clear h; replace H := Option.bind_eq_some_iff.mp H; obtain ⟨t222, A30, H⟩ := H; replace H : (spec_daFirst.l0 k a0 a1 t222 (t222.length : Int) 0) = some r := H; have A3 := a_ A30; clear A30; have H' := a_ H; clear H
 go_enter Try.func40, Try.ntmps40
 go_wp2_with (first | ((with_reducible refine gate_callee (f := 55) rfl ?_); refine goesL_ (some 8) rfl rfl Try.func55 t1_ rfl #[] rfl t28_ ?_; (with_reducible refine (spec_daAll.calls k  t222 _ A3.out).mono ?_); rintro e w4 ⟨v223, rfl, ho0, hb⟩; refine ⟨_, rfl, ?_⟩; have n0_ := a_ (Kd.R_lower ho0 (below_size (L_ HB.out (Nat.le_refl _) (Nat.le_refl _) (Nat.le_refl _)))); have n1_ := a_ (below_step (L_ HB.out (Nat.le_refl _) (Nat.le_refl _) (Nat.le_refl _)) hb); clear HB; have HO224 := n0_; have HB := n1_; clear n0_ n1_; (try clear hb); (try clear hb2); (try clear hk); (try clear hi); (try clear ho0); obtain ⟨Ao5, co5, eo5⟩ := Kd.R_slice HO224.out; subst eo5))
 go_loopg [10] k (fun kq v10 w' => ∃ (x10_1 : Int), v10 = .int .i64 x10_1 ∧ Aside0 (spec_daFirst.l0 kq a0 a1 t222 (t222.length : Int) x10_1 = some r) ∧ Aside0 (kq ≤ k) ∧ Aside0 (Kd.R k43 43 w' w.heap.size (fun _ => True) (.slice Ao5 t222.length co5) t222) ∧ Aside0 (Below w.heap.size w w'))
 case atStart => exact ⟨(0), t2_, H', ⟨Nat.le_refl _⟩, ⟨R_ HO224.out⟩, ⟨L_ HB.out (Nat.le_refl _) (Nat.le_refl _) (Nat.le_refl _)⟩⟩
 case round =>
  clear H'; obtain ⟨x10_1, rfl, HA, HK1, HO_8, HB⟩ := hrel
  cases gk with
  | zero => exact absurd HA.out (by simp [spec_daFirst.l0])
  | succ k1 =>
   have H := HA.out; clear HA; simp only [spec_daFirst.l0] at H
   by_cases c6 : x10_1 < (t222.length : Int)
   ·
    rw [if_pos c6] at H; have c6b0 : decide (x10_1 < (t222.length : Int)) = true := decide_eq_true c6; clear c6
    by_cases c7 : 0 ≤ x10_1
    ·
     rw [if_pos c7] at H; have c7b0 : decide (0 ≤ x10_1) = true := decide_eq_true c7; clear c7
     by_cases c8 : x10_1 < (t222.length : Int)
     ·
      rw [if_pos c8] at H; have c8b0 : decide (x10_1 < (t222.length : Int)) = true := decide_eq_true c8; clear c8; have HC9 := a_ H; clear H; have p225 : 0 ≤ (x10_1 : Int) := of_decide_eq_true t0_; have q225 : x10_1 < (t222.length : Int) := of_decide_eq_true t0_; obtain ⟨ad225, e225, hx225_0, hx225_1⟩ := at_T43 (Kd.R_reads' HO_8.out).2.2 x10_1 p225 q225
      cases e225
      replace p225 := eq_true p225; replace q225 := eq_true q225
      go_upto_region 5 with (first | ((with_reducible refine gate_dst (N := 6) rfl ?_); refine box_event ?hg (N := 6) ?hd (cs := #[.int .i64 0, .int .i64 0]) (t := 43) ?hr ?_; (case hd => rfl); (case hg => rfl); (case hr => first | (go_simp; done) | (go_simp; rfl)); intro gb226 hg w10 hbox hb; have n0_ := a_ (Kd.R_below (Kd.R_elderB (R_ HO_8.out) gb226 (Nat.le_of_eq hg.symm)) hb); have n1_ := a_ (below_step (L_ HB.out (Nat.le_refl _) (Nat.le_refl _) (Nat.le_refl _)) hb); have n2_ := a_ (hbox); have n3_ := a_ ((by rw [hg]; exact (below_size (L_ HB.out (Nat.le_refl _) (Nat.le_refl _) (Nat.le_refl _))) : w.heap.size ≤ gb226)); have n4_ := a_ ((by rw [hg]; exact (below_size (L_ HB.out (Nat.le_refl _) (Nat.le_refl _) (Nat.le_refl _))) : w.heap.size ≤ gb226)); clear HO_8; clear HB; have HO_8 := n0_; have HB := n1_; have BK226 := n2_; have GW226 := n3_; have GE226 := n4_; clear n0_ n1_ n2_ n3_ n4_; clear hb hbox hg; have hcz11_0 : w10.cell? ⟨gb226, 0, none⟩ = some (.int .i64 0) := c_ BK226.out 0; have hcz11_1 : w10.cell? ⟨gb226, 1, none⟩ = some (.int .i64 0) := c_ BK226.out 1; have hfz11_0 := blk_frozen BK226.out 0; have hfz11_1 := blk_frozen BK226.out 1))
      (try simp only [Act.put, List.setIfInBounds_toArray, List.set_cons_zero, List.set_cons_succ])
      go_cut [31] (fun v31 wc => ∃ (kq : Nat) (x31_8 : Bool), v31 = .bool x31_8 ∧ Aside0 (spec_daFirst.j1 kq a0 a1 (wrap64 (a0 - (wrap64 (((rd_T43 t222 x10_1).f0) * ((rd_T43 t222 x10_1).f1))))) t222 (t222.length : Int) x10_1 x31_8 ((rd_T43 t222 x10_1).f0) ((rd_T43 t222 x10_1).f1) = some r) ∧ Aside0 (kq ≤ k1) ∧ Aside0 (Kd.R k43 43 wc w.heap.size (fun k_ => k_ ≠ gb226) (.slice (some ad225) t222.length co5) t222) ∧ Aside0 (wc.heap[gb226]? = some (.cells #[.int .i64 ((rd_T43 t222 x10_1).f0), .int .i64 ((rd_T43 t222 x10_1).f1)] 43 (0, 0))) ∧ Aside0 (Below w.heap.size w wc))
      case first =>
       have H := HC9.out; clear HC9
       by_cases c12 : a1 = 1
       ·
        rw [if_pos c12] at H; have c12b0 : (a1 == 1) = true := beq_iff_eq.mpr c12; have c12b1 : (a1 != 1) = false := bne_eq_false_iff_eq.mpr c12; clear c12
        (first | rw [c12b0] | (simp only [i64_w, i32_w]; rw [c12b0]) | skip)
        by_cases c13 : (wrap64 (a0 - (wrap64 (((rd_T43 t222 x10_1).f0) * ((rd_T43 t222 x10_1).f1))))) = 0
        ·
         rw [if_pos c13] at H; have c13b0 : ((wrap64 (a0 - (wrap64 (((rd_T43 t222 x10_1).f0) * ((rd_T43 t222 x10_1).f1))))) == 0) = true := beq_iff_eq.mpr c13; have c13b1 : ((wrap64 (a0 - (wrap64 (((rd_T43 t222 x10_1).f0) * ((rd_T43 t222 x10_1).f1))))) != 0) = false := bne_eq_false_iff_eq.mpr c13; clear c13; have H' := a_ H; clear H; have hcz14_0 : w10.cell? ⟨gb226, 0, none⟩ = some (.int .i64 0) := c_ BK226.out 0; have hcz14_1 : w10.cell? ⟨gb226, 1, none⟩ = some (.int .i64 0) := c_ BK226.out 1; have hfz14_0 := blk_frozen BK226.out 0; have hfz14_1 := blk_frozen BK226.out 1
         go_wp2
         go_meet
         case rel => exact ⟨_, ((((rd_T43 t222 x10_1).f1) == 2)), t2_, H', ⟨by have := HK1.out; first | omega | exact Nat.le_refl _⟩, ⟨t18_⟩, ⟨t20_⟩, ⟨L_ HB.out GE226.out GE226.out GE226.out⟩⟩
        ·
         rw [if_neg c13] at H; have c13b0 : ((wrap64 (a0 - (wrap64 (((rd_T43 t222 x10_1).f0) * ((rd_T43 t222 x10_1).f1))))) == 0) = false := beq_eq_false_iff_ne.mpr c13; have c13b1 : ((wrap64 (a0 - (wrap64 (((rd_T43 t222 x10_1).f0) * ((rd_T43 t222 x10_1).f1))))) != 0) = true := bne_iff_ne.mpr c13; have H' := a_ H; clear H
         go_wp2
         go_meet
         case rel => exact ⟨_, (false), t2_, H', ⟨by have := HK1.out; first | omega | exact Nat.le_refl _⟩, ⟨t18_⟩, ⟨t20_⟩, ⟨L_ HB.out GE226.out GE226.out GE226.out⟩⟩
       ·
        rw [if_neg c12] at H; have c12b0 : (a1 == 1) = false := beq_eq_false_iff_ne.mpr c12; have c12b1 : (a1 != 1) = true := bne_iff_ne.mpr c12
        (first | rw [c12b0] | (simp only [i64_w, i32_w]; rw [c12b0]) | skip)
        have H' := a_ H; clear H
        go_wp2
        go_meet
        case rel => exact ⟨_, (false), t2_, H', ⟨by have := HK1.out; first | omega | exact Nat.le_refl _⟩, ⟨t18_⟩, ⟨t20_⟩, ⟨L_ HB.out GE226.out GE226.out GE226.out⟩⟩
      case rest =>
       clear HC9; obtain ⟨kq, x31_8, rfl, HA, HJ8, HO_8, BK226, HB⟩ := hcut
       cases kq with
       | zero => exact absurd HA.out (by simp [spec_daFirst.j1])
       | succ kj8 =>
        have H := HA.out; clear HA; simp only [spec_daFirst.j1] at H
        by_cases c15 : x31_8 = true
        ·
         subst c15; have H1 : (some (([(⟨((rd_T43 t222 x10_1).f0), ((rd_T43 t222 x10_1).f1)⟩ : S43)] : List (S43)))) = some r := by rw [if_pos rfl] at H; exact H
         clear H; have H := H1; clear H1; obtain ⟨y227, hy227⟩ : ∃ y_ : List (S43), y_ = (([(⟨((rd_T43 t222 x10_1).f0), ((rd_T43 t222 x10_1).f1)⟩ : S43)] : List (S43))) := ⟨_, rfl⟩; replace H : (some y227) = some r := by first | (rw [hy227]; with_reducible exact H) | (have H2_ := (Option.bind_some _ _).symm.trans H; rw [hy227]; with_reducible exact H2_) | (have H2_ := (Option.bind_some _ _).symm.trans H; with_reducible exact H2_) | with_reducible exact H | (rw [hy227]; exact H) | exact H
         have Ny227 := a_ hy227; clear hy227; obtain rfl := Option.some.inj H; have hcz16_0 : wc.cell? ⟨gb226, 0, none⟩ = some (.int .i64 ((rd_T43 t222 x10_1).f0)) := c_ BK226.out 0; have hcz16_1 : wc.cell? ⟨gb226, 1, none⟩ = some (.int .i64 ((rd_T43 t222 x10_1).f1)) := c_ BK226.out 1; have hfz16_0 := blk_frozen BK226.out 0; have hfz16_1 := blk_frozen BK226.out 1
         go_wp2_with (first | ((with_reducible refine gate_dst (N := 33) rfl ?_); refine Kd.R_lit k43 _ 43 ?hg (N := 33) ?hd (xs := ([(⟨((rd_T43 t222 x10_1).f0), ((rd_T43 t222 x10_1).f1)⟩ : S43)] : List (S43))) (inner := [.int .i64 ((rd_T43 t222 x10_1).f0), .int .i64 ((rd_T43 t222 x10_1).f1)]) (ok := fun _ => True) (okp := fun _ => True) ?hr ?hp (fun _ hk => hk) trivial (Below.refl _ _) (Nat.le_refl _) t31_ ?_; (case hd => rfl); (case hg => rfl); (case hr => first | (go_simp; done) | (go_simp; rfl)); (case hp => exact (Reps.c2 (show Kd.M k43 _ _ _ (⟨((rd_T43 t222 x10_1).f0), ((rd_T43 t222 x10_1).f1)⟩ : S43) [.int .i64 ((rd_T43 t222 x10_1).f0), .int .i64 ((rd_T43 t222 x10_1).f1)] from (k43_mkM _ _ _ (⟨((rd_T43 t222 x10_1).f0), ((rd_T43 t222 x10_1).f1)⟩ : S43) )) (Reps.none _ _))); intro v228 w17 ho18 hb hg_ hnew_; clear hg_ hnew_; (first | rw [← Ny227.out] at ho18 | (simp only [Int.reduceToNat] at ho18; rw [← Ny227.out] at ho18)); have n0_ := a_ (Kd.R_elder' (R_ HO_8.out) (Kd.R_base ho18) hb); have n1_ := a_ (Kd.R_lower (Kd.R_newB (Kd.R_new' ho18 (Kd.R_lt (R_ HO_8.out))) (B_ BK226.out)) (below_size (L_ HB.out GE226.out GE226.out GE226.out))); have n2_ := bb_ BK226 hb; have n3_ := a_ (below_step (L_ HB.out GE226.out GE226.out GE226.out) hb); clear HO_8; clear BK226; clear HB; have HO_8 := n0_; have HO229 := n1_; have BK226 := n2_; have HB := n3_; clear n0_ n1_ n2_ n3_; clear hb ho18))
         go_ret
         exact ⟨_, by first | rfl | (simp [errW_none, errW_some] <;> rfl) | (simp [*, errW_none, errW_some] <;> rfl), by (with_reducible repeat (first | apply Kd.R_alloc | apply Kd.R_drewN | apply Kd.R_drew)); exact Kd.R_mono HO229.out (fun _ hk => trivial), by repeat (first | (with_reducible first | exact HB.out | apply below_alloc | apply pw_below_drewN | apply below_drew1 | refine below_set ?_ GE226.out) | exact HB.out)⟩
        ·
         replace c15 := Bool.eq_false_iff.mpr c15; subst c15; have H1 : (if a1 > 1 then (if (wrap64 (a0 - (wrap64 (((rd_T43 t222 x10_1).f0) * ((rd_T43 t222 x10_1).f1))))) > 0 then ((spec_daFinishes.f kj8 (wrap64 (a0 - (wrap64 (((rd_T43 t222 x10_1).f0) * ((rd_T43 t222 x10_1).f1))))) (wrap64 (a1 - 1))).bind fun t230 => (if t230 > 0 then ((some (([(⟨((rd_T43 t222 x10_1).f0), ((rd_T43 t222 x10_1).f1)⟩ : S43)] : List (S43)) : List (S43))).bind fun y231 => ((spec_daFirst.f kj8 (wrap64 (a0 - (wrap64 (((rd_T43 t222 x10_1).f0) * ((rd_T43 t222 x10_1).f1))))) (wrap64 (a1 - 1))).bind fun t234 => (if y231.length + t234.length < 8796093022208 then (some (y231 ++ t234)) else (none)))) else (spec_daFirst.l0 kj8 a0 a1 t222 (t222.length : Int) (wrap64 (x10_1 + 1))))) else (spec_daFirst.l0 kj8 a0 a1 t222 (t222.length : Int) (wrap64 (x10_1 + 1)))) else (spec_daFirst.l0 kj8 a0 a1 t222 (t222.length : Int) (wrap64 (x10_1 + 1)))) = some r := by rw [if_neg (show ¬ (false = true) by decide)] at H; exact H
         clear H; have H := H1; clear H1
         by_cases c19 : a1 > 1
         ·
          rw [if_pos c19] at H; have c19b0 : decide (1 < a1) = true := decide_eq_true c19; clear c19
          by_cases c20 : (wrap64 (a0 - (wrap64 (((rd_T43 t222 x10_1).f0) * ((rd_T43 t222 x10_1).f1))))) > 0
          ·
           rw [if_pos c20] at H; have c20b0 : decide (0 < (wrap64 (a0 - (wrap64 (((rd_T43 t222 x10_1).f0) * ((rd_T43 t222 x10_1).f1)))))) = true := decide_eq_true c20; clear c20; replace H := Option.bind_eq_some_iff.mp H; obtain ⟨t230, A210, H⟩ := H; replace H : (if t230 > 0 then ((some (([(⟨((rd_T43 t222 x10_1).f0), ((rd_T43 t222 x10_1).f1)⟩ : S43)] : List (S43)) : List (S43))).bind fun y231 => ((spec_daFirst.f kj8 (wrap64 (a0 - (wrap64 (((rd_T43 t222 x10_1).f0) * ((rd_T43 t222 x10_1).f1))))) (wrap64 (a1 - 1))).bind fun t234 => (if y231.length + t234.length < 8796093022208 then (some (y231 ++ t234)) else (none)))) else (spec_daFirst.l0 kj8 a0 a1 t222 (t222.length : Int) (wrap64 (x10_1 + 1)))) = some r := H; have A21 := a_ A210; clear A210
           by_cases c22 : t230 > 0
           ·
            rw [if_pos c22] at H; have c22b0 : decide (0 < t230) = true := decide_eq_true c22; clear c22; obtain ⟨y231, hy231⟩ : ∃ y_ : List (S43), y_ = (([(⟨((rd_T43 t222 x10_1).f0), ((rd_T43 t222 x10_1).f1)⟩ : S43)] : List (S43))) := ⟨_, rfl⟩; replace H : ((spec_daFirst.f kj8 (wrap64 (a0 - (wrap64 (((rd_T43 t222 x10_1).f0) * ((rd_T43 t222 x10_1).f1))))) (wrap64 (a1 - 1))).bind fun t234 => (if y231.length + t234.length < 8796093022208 then (some (y231 ++ t234)) else (none))) = some r := by first | (rw [hy231]; with_reducible exact H) | (have H2_ := (Option.bind_some _ _).symm.trans H; rw [hy231]; with_reducible exact H2_) | (have H2_ := (Option.bind_some _ _).symm.trans H; with_reducible exact H2_) | with_reducible exact H | (rw [hy231]; exact H) | exact H
            have Ny231 := a_ hy231; clear hy231; replace H := Option.bind_eq_some_iff.mp H; obtain ⟨t234, A230, H⟩ := H; replace H : (if y231.length + t234.length < 8796093022208 then (some (y231 ++ t234)) else (none)) = some r := H; have A23 := a_ A230; clear A230
            by_cases c24 : y231.length + t234.length < 8796093022208
            ·
             rw [if_pos c24] at H; have LMc24 := a_ c24; clear c24; obtain ⟨y237, hy237⟩ : ∃ y_ : List (S43), y_ = (y231 ++ t234) := ⟨_, rfl⟩; replace H : (some y237) = some r := by first | (rw [hy237]; with_reducible exact H) | (have H2_ := (Option.bind_some _ _).symm.trans H; rw [hy237]; with_reducible exact H2_) | (have H2_ := (Option.bind_some _ _).symm.trans H; with_reducible exact H2_) | with_reducible exact H | (rw [hy237]; exact H) | exact H
             have Ny237 := a_ hy237; clear hy237; obtain rfl := Option.some.inj H
             try go_wp2_with (first | (go_at_call 39; (with_reducible refine (spec_daFinishes.calls kj8 (wrap64 (a0 - (wrap64 (((rd_T43 t222 x10_1).f0) * ((rd_T43 t222 x10_1).f1))))) (wrap64 (a1 - 1)) t230 _ A21.out).mono ?_); rintro e w25 ⟨rfl, hb⟩; have n0_ := a_ (Kd.R_below (R_ HO_8.out) hb); have n1_ := bb_ BK226 hb; have n2_ := a_ (below_step (L_ HB.out GE226.out GE226.out GE226.out) hb); clear HO_8; clear BK226; clear HB; have HO_8 := n0_; have BK226 := n1_; have HB := n2_; clear n0_ n1_ n2_; (try clear hb); (try clear hb2); (try clear hk); (try clear hi)))
             have n0_ := a_ (Kd.R_drew HO_8.out); have n1_ := a_ (blk_drew BK226.out); have n2_ := a_ (below_drew1 HB.out); clear HO_8; clear BK226; clear HB; have HO_8 := n0_; have BK226 := n1_; have HB := n2_; clear n0_ n1_ n2_
             refine start_ (n := 8) (S := fun w' => w'.cell? ⟨gb226, 0, none⟩ = some (.int .i64 ((rd_T43 t222 x10_1).f0)) ∧ w'.cell? ⟨gb226, 1, none⟩ = some (.int .i64 ((rd_T43 t222 x10_1).f1))) (ds := []) #[false, false, false, false, false, false, false, false] t1_ rfl rfl ⟨c_ BK226.out 0, c_ BK226.out 1⟩ (fun hHeld => ?_); refine with_tabW spec_daFirst.tab8 spec_daFirst.bits8 (fun HT_ HW_ => ?_)
             generalize w25.drew = w26 at HO_8 BK226 HB hHeld ⊢
             refine pure_ (i := 2) (N := some 49) (v := ?_) (a' := ?_) #[false, false, true, false, false, false, false, false] rfl rfl (any_of HT_.out t1_) (fun _ _ _ h => h) (Or.inl ⟨by rfl, ?_⟩) ?_ ?_
             rotate_left
             ·
              intro w'
              go_simp
              with_reducible rfl
             rotate_left
             ·
              simp only [Act.put, List.setIfInBounds_toArray, List.set_cons_zero, List.set_cons_succ, i64_w, i32_w]
              rfl
             refine pure_ (i := 3) (N := some 50) (v := ?_) (a' := ?_) #[false, false, true, true, false, false, false, false] rfl rfl (any_of HT_.out t1_) (fun _ _ _ h => h) (Or.inl ⟨by rfl, ?_⟩) ?_ ?_
             rotate_left
             ·
              intro w'
              go_simp
              with_reducible rfl
             rotate_left
             ·
              simp only [Act.put, List.setIfInBounds_toArray, List.set_cons_zero, List.set_cons_succ, i64_w, i32_w]
              rfl
             refine pure_ (i := 4) (N := some 51) (v := ?_) (a' := ?_) #[false, false, true, true, true, false, false, false] rfl rfl (any_of HT_.out t1_) (fun _ _ _ h => h) (Or.inl ⟨by rfl, ?_⟩) ?_ ?_
             rotate_left
             ·
              intro w'
              go_simp
              with_reducible rfl
             rotate_left
             ·
              simp only [Act.put, List.setIfInBounds_toArray, List.set_cons_zero, List.set_cons_succ, i64_w, i32_w]
              rfl
             refine take_ (i := 0) (N := some 47) (v := ?_) (a' := ?_) #[true, false, true, true, true, false, false, false] rfl rfl (take_ofW HT_.out HW_.out t1_) (fun _ _ _ h => h) (Or.inl ⟨by rfl, ?_⟩) hHeld ?_ ?_
             rotate_left
             ·
              rintro w' ⟨s0, s1⟩
              go_simp
              with_reducible rfl
             rotate_left
             ·
              simp only [Act.put, List.setIfInBounds_toArray, List.set_cons_zero, List.set_cons_succ, i64_w, i32_w]
              rfl
             refine join_ (σ := Value × Value) 2 #[true, true, true, true, true, true, false, false] (fun s_ => [(48, s_.1), (52, s_.2)]) (fun s_ w' => (w'.cell? ⟨gb226, 0, none⟩ = some (.int .i64 ((rd_T43 t222 x10_1).f0)) ∧ w'.cell? ⟨gb226, 1, none⟩ = some (.int .i64 ((rd_T43 t222 x10_1).f1))) ∧ (Kd.R k43 43 w' w.heap.size (fun k_ => some k_ ≠ (s_.2 : Value).ownBlock ∧ some k_ ≠ (.slice (some ad225) t222.length co5 : Value).ownBlock ∧ k_ ≠ gb226) s_.1 y231) ∧ (Kd.R k43 43 w' w.heap.size (fun k_ => some k_ ≠ (s_.1 : Value).ownBlock ∧ some k_ ≠ (.slice (some ad225) t222.length co5 : Value).ownBlock ∧ k_ ≠ gb226) s_.2 t234) ∧ (Kd.R k43 43 w' w.heap.size (fun k_ => some k_ ≠ (s_.1 : Value).ownBlock ∧ some k_ ≠ (s_.2 : Value).ownBlock ∧ k_ ≠ gb226) (.slice (some ad225) t222.length co5) t222) ∧ (w'.heap[gb226]? = some (.cells #[.int .i64 ((rd_T43 t222 x10_1).f0), .int .i64 ((rd_T43 t222 x10_1).f1)] 43 (0, 0))) ∧ (Below w.heap.size w w')) ?_ ?_
             rotate_left
             ·
              intro hCont
              refine two_ (i := 1) (j := 5) (Ni := some 48) (Nj := some 52) #[true, true, true, true, true, false, false, false] #[true, false, true, true, true, true, false, false] rfl rfl rfl rfl (two_of HT_.out t1_) t29_ t29_ (fun K hK => ?_) (fun K hK => ?_)
              ·
               skip
               refine Kd.R_lit_step k43 _ 43 ?hg (N := 48) ?hd (xs := ([(⟨((rd_T43 t222 x10_1).f0), ((rd_T43 t222 x10_1).f1)⟩ : S43)] : List (S43))) (inner := [.int .i64 ((rd_T43 t222 x10_1).f0), .int .i64 ((rd_T43 t222 x10_1).f1)]) (ok := fun _ => True) (okp := fun _ => True) ?hr ?hp (fun _ hk => hk) trivial (Below.refl _ _) (Nat.le_refl _) t31_ ?_; (case hd => rfl); (case hg => rfl); (case hr => first | (go_simp; done) | (go_simp; rfl)); (case hp => exact (Reps.c2 (show Kd.M k43 _ _ _ (⟨((rd_T43 t222 x10_1).f0), ((rd_T43 t222 x10_1).f1)⟩ : S43) [.int .i64 ((rd_T43 t222 x10_1).f0), .int .i64 ((rd_T43 t222 x10_1).f1)] from (k43_mkM _ _ _ (⟨((rd_T43 t222 x10_1).f0), ((rd_T43 t222 x10_1).f1)⟩ : S43) )) (Reps.none _ _)))
               intro v232 w27 ho28 hb hg_ hnew_
               clear hg_ hnew_
               (first | rw [← Ny231.out] at ho28 | (simp only [Int.reduceToNat] at ho28; rw [← Ny231.out] at ho28))
               have n0_ := a_ (Kd.R_elder' (R_ HO_8.out) (Kd.R_base ho28) hb); have n1_ := a_ (Kd.R_lower (Kd.R_newB (Kd.R_new' ho28 (Kd.R_lt (R_ HO_8.out))) (B_ BK226.out)) (below_size (L_ HB.out GE226.out GE226.out GE226.out))); have n2_ := bb_ BK226 hb; have n3_ := a_ (below_step (L_ HB.out GE226.out GE226.out GE226.out) hb); clear HO_8; clear BK226; clear HB; have HO_8 := n0_; have HO233 := n1_; have BK226 := n2_; have HB := n3_; clear n0_ n1_ n2_ n3_; clear hb ho28
               refine hK.out _ _ ⟨c_ BK226.out 0, c_ BK226.out 1⟩ (fun hHeld => ?_)
               clear hK K
               refine norm_ (a' := ?_) ?_ ?_
               rotate_left
               ·
                show Act.put _ (some 48) _ = _
                simp only [Act.put, List.setIfInBounds_toArray, List.set_cons_zero, List.set_cons_succ, i64_w, i32_w]
                rfl
               refine one_ (i := 5) (N := some 52) #[true, true, true, true, true, true, false, false] rfl rfl (one_of HT_.out t1_) t29_ (fun K hK => ?_)
               refine goes_ Try.func40 t1_ rfl #[.int .i64 (wrap64 (a0 - (wrap64 (((rd_T43 t222 x10_1).f0) * ((rd_T43 t222 x10_1).f1))))), .int .i64 (wrap64 (a1 - 1))] (by rfl) rfl rfl (by (try simp only [m1_, m2_, m3_]); first | done | rfl) ?_
               with_reducible refine (ih kj8 t60_ (wrap64 (a0 - (wrap64 (((rd_T43 t222 x10_1).f0) * ((rd_T43 t222 x10_1).f1))))) (wrap64 (a1 - 1)) t234 _ A23.out).mono ?_
               rintro e w29 ⟨v235, rfl, ho0, hb⟩
               refine ⟨_, rfl, ?_⟩
               have n0_ := a_ (Kd.R_elder' (R_ HO_8.out) (Kd.R_base ho0) hb); have n1_ := a_ (Kd.R_elder' (R_ HO233.out) (Kd.R_base ho0) hb); have n2_ := a_ (Kd.R_lower (Kd.R_newB (Kd.R_new' (Kd.R_new' ho0 (Kd.R_lt (R_ HO_8.out))) (Kd.R_lt (R_ HO233.out))) (B_ BK226.out)) (below_size (L_ HB.out GE226.out GE226.out GE226.out))); have n3_ := bb_ BK226 hb; have n4_ := a_ (below_step (L_ HB.out GE226.out GE226.out GE226.out) hb); clear HO_8; clear HO233; clear BK226; clear HB; have HO_8 := n0_; have HO233 := n1_; have HO236 := n2_; have BK226 := n3_; have HB := n4_; clear n0_ n1_ n2_ n3_ n4_
               (try clear hb)
               (try clear hb2)
               (try clear hk)
               (try clear hi)
               (try clear ho0)
               refine hK.out _ _ ⟨c_ BK226.out 0, c_ BK226.out 1⟩ (fun hHeld => ?_)
               clear hK K
               refine norm_ (a' := ?_) ?_ ?_
               rotate_left
               ·
                show Act.put _ (some 52) _ = _
                simp only [Act.put, List.setIfInBounds_toArray, List.set_cons_zero, List.set_cons_succ, i64_w, i32_w]
                rfl
               exact norm_ (by simp only [putAll, Act.put, List.setIfInBounds_toArray, List.set_cons_zero, List.set_cons_succ]) (hCont (v232, v235) _ ⟨hHeld, (by (with_reducible repeat (first | apply Kd.R_alloc | apply Kd.R_drewN | apply Kd.R_drew)); exact Kd.R_mono HO233.out (fun _ hk => ⟨hk.2, ⟨hk.1.1.2, hk.1.2⟩⟩)), (by (with_reducible repeat (first | apply Kd.R_alloc | apply Kd.R_drewN | apply Kd.R_drew)); exact Kd.R_mono HO236.out (fun _ hk => ⟨hk.1.2, ⟨hk.1.1.2, hk.2⟩⟩)), (by (with_reducible repeat (first | apply Kd.R_alloc | apply Kd.R_drewN | apply Kd.R_drew)); exact Kd.R_mono HO_8.out (fun _ hk => ⟨hk.1.2, ⟨hk.2, hk.1.1⟩⟩)), (B_ BK226.out), (L_ HB.out GE226.out GE226.out GE226.out)⟩)
              ·
               skip
               refine goes_ Try.func40 t1_ rfl #[.int .i64 (wrap64 (a0 - (wrap64 (((rd_T43 t222 x10_1).f0) * ((rd_T43 t222 x10_1).f1))))), .int .i64 (wrap64 (a1 - 1))] (by rfl) rfl rfl (by (try simp only [m1_, m2_, m3_]); first | done | rfl) ?_
               with_reducible refine (ih kj8 t60_ (wrap64 (a0 - (wrap64 (((rd_T43 t222 x10_1).f0) * ((rd_T43 t222 x10_1).f1))))) (wrap64 (a1 - 1)) t234 _ A23.out).mono ?_
               rintro e w27 ⟨v235, rfl, ho0, hb⟩
               refine ⟨_, rfl, ?_⟩
               have n0_ := a_ (Kd.R_elder' (R_ HO_8.out) (Kd.R_base ho0) hb); have n1_ := a_ (Kd.R_lower (Kd.R_newB (Kd.R_new' ho0 (Kd.R_lt (R_ HO_8.out))) (B_ BK226.out)) (below_size (L_ HB.out GE226.out GE226.out GE226.out))); have n2_ := bb_ BK226 hb; have n3_ := a_ (below_step (L_ HB.out GE226.out GE226.out GE226.out) hb); clear HO_8; clear BK226; clear HB; have HO_8 := n0_; have HO236 := n1_; have BK226 := n2_; have HB := n3_; clear n0_ n1_ n2_ n3_
               (try clear hb)
               (try clear hb2)
               (try clear hk)
               (try clear hi)
               (try clear ho0)
               refine hK.out _ _ ⟨c_ BK226.out 0, c_ BK226.out 1⟩ (fun hHeld => ?_)
               clear hK K
               refine norm_ (a' := ?_) ?_ ?_
               rotate_left
               ·
                show Act.put _ (some 52) _ = _
                simp only [Act.put, List.setIfInBounds_toArray, List.set_cons_zero, List.set_cons_succ, i64_w, i32_w]
                rfl
               refine one_ (i := 1) (N := some 48) #[true, true, true, true, true, true, false, false] rfl rfl (one_of HT_.out t1_) t29_ (fun K hK => ?_)
               refine Kd.R_lit_step k43 _ 43 ?hg (N := 48) ?hd (xs := ([(⟨((rd_T43 t222 x10_1).f0), ((rd_T43 t222 x10_1).f1)⟩ : S43)] : List (S43))) (inner := [.int .i64 ((rd_T43 t222 x10_1).f0), .int .i64 ((rd_T43 t222 x10_1).f1)]) (ok := fun _ => True) (okp := fun _ => True) ?hr ?hp (fun _ hk => hk) trivial (Below.refl _ _) (Nat.le_refl _) t31_ ?_; (case hd => rfl); (case hg => rfl); (case hr => first | (go_simp; done) | (go_simp; rfl)); (case hp => exact (Reps.c2 (show Kd.M k43 _ _ _ (⟨((rd_T43 t222 x10_1).f0), ((rd_T43 t222 x10_1).f1)⟩ : S43) [.int .i64 ((rd_T43 t222 x10_1).f0), .int .i64 ((rd_T43 t222 x10_1).f1)] from (k43_mkM _ _ _ (⟨((rd_T43 t222 x10_1).f0), ((rd_T43 t222 x10_1).f1)⟩ : S43) )) (Reps.none _ _)))
               intro v232 w28 ho29 hb hg_ hnew_
               clear hg_ hnew_
               (first | rw [← Ny231.out] at ho29 | (simp only [Int.reduceToNat] at ho29; rw [← Ny231.out] at ho29))
               have n0_ := a_ (Kd.R_elder' (R_ HO_8.out) (Kd.R_base ho29) hb); have n1_ := a_ (Kd.R_elder' (R_ HO236.out) (Kd.R_base ho29) hb); have n2_ := a_ (Kd.R_lower (Kd.R_newB (Kd.R_new' (Kd.R_new' ho29 (Kd.R_lt (R_ HO_8.out))) (Kd.R_lt (R_ HO236.out))) (B_ BK226.out)) (below_size (L_ HB.out GE226.out GE226.out GE226.out))); have n3_ := bb_ BK226 hb; have n4_ := a_ (below_step (L_ HB.out GE226.out GE226.out GE226.out) hb); clear HO_8; clear HO236; clear BK226; clear HB; have HO_8 := n0_; have HO236 := n1_; have HO233 := n2_; have BK226 := n3_; have HB := n4_; clear n0_ n1_ n2_ n3_ n4_; clear hb ho29
               refine hK.out _ _ ⟨c_ BK226.out 0, c_ BK226.out 1⟩ (fun hHeld => ?_)
               clear hK K
               refine norm_ (a' := ?_) ?_ ?_
               rotate_left
               ·
                show Act.put _ (some 48) _ = _
                simp only [Act.put, List.setIfInBounds_toArray, List.set_cons_zero, List.set_cons_succ, i64_w, i32_w]
                rfl
               exact norm_ (by simp only [putAll, Act.put, List.setIfInBounds_toArray, List.set_cons_zero, List.set_cons_succ]) (hCont (v232, v235) _ ⟨hHeld, (by (with_reducible repeat (first | apply Kd.R_alloc | apply Kd.R_drewN | apply Kd.R_drew)); exact Kd.R_mono HO233.out (fun _ hk => ⟨hk.1.2, ⟨hk.1.1.2, hk.2⟩⟩)), (by (with_reducible repeat (first | apply Kd.R_alloc | apply Kd.R_drewN | apply Kd.R_drew)); exact Kd.R_mono HO236.out (fun _ hk => ⟨hk.2, ⟨hk.1.1.2, hk.1.2⟩⟩)), (by (with_reducible repeat (first | apply Kd.R_alloc | apply Kd.R_drewN | apply Kd.R_drew)); exact Kd.R_mono HO_8.out (fun _ hk => ⟨hk.2, ⟨hk.1.2, hk.1.1⟩⟩)), (B_ BK226.out), (L_ HB.out GE226.out GE226.out GE226.out)⟩)
             rintro ⟨v232, v235⟩ w30 ⟨hS_, h0_, h1_, h2_, h3_, h4_⟩; have n0_ : Aside0 (Kd.R k43 43 w30 w.heap.size (fun k_ => some k_ ≠ (v235 : Value).ownBlock ∧ some k_ ≠ (.slice (some ad225) t222.length co5 : Value).ownBlock ∧ k_ ≠ gb226) v232 y231) := ⟨h0_⟩; have n1_ : Aside0 (Kd.R k43 43 w30 w.heap.size (fun k_ => some k_ ≠ (v232 : Value).ownBlock ∧ some k_ ≠ (.slice (some ad225) t222.length co5 : Value).ownBlock ∧ k_ ≠ gb226) v235 t234) := ⟨h1_⟩; have n2_ : Aside0 (Kd.R k43 43 w30 w.heap.size (fun k_ => some k_ ≠ (v232 : Value).ownBlock ∧ some k_ ≠ (v235 : Value).ownBlock ∧ k_ ≠ gb226) (.slice (some ad225) t222.length co5) t222) := ⟨h2_⟩; have n3_ : Aside0 (w30.heap[gb226]? = some (.cells #[.int .i64 ((rd_T43 t222 x10_1).f0), .int .i64 ((rd_T43 t222 x10_1).f1)] 43 (0, 0))) := ⟨h3_⟩; have n4_ : Aside0 (Below w.heap.size w w30) := ⟨h4_⟩; clear HO_8; clear BK226; clear HB; clear h0_ h1_ h2_ h3_ h4_; have HO233 := n0_; have HO236 := n1_; have HO_8 := n2_; have BK226 := n3_; have HB := n4_; clear n0_ n1_ n2_ n3_ n4_; have hHeld : w30.cell? ⟨gb226, 0, none⟩ = some (.int .i64 ((rd_T43 t222 x10_1).f0)) ∧ w30.cell? ⟨gb226, 1, none⟩ = some (.int .i64 ((rd_T43 t222 x10_1).f1)) := hS_; obtain ⟨Ao32, co32, eo32⟩ := Kd.R_slice HO236.out
             (first | subst eo32 | (injection eo32 with f1_ f2_ f3_; have f4_ := f1_.symm; have f5_ := f3_.symm; clear f1_ f2_ f3_; subst f4_; subst f5_))
             refine norm_ (a' := ?_) ?_ ?_
             rotate_left
             ·
              simp only [putAll, Act.put, List.setIfInBounds_toArray, List.set_cons_zero, List.set_cons_succ]
              rfl
             refine one_ (i := 6) (N := some 53) #[true, true, true, true, true, true, true, false] rfl rfl (one_of HT_.out t1_) t29_ (fun K hK => ?_)
             refine Kd.R_append_rows_step k43 (w0 := w) w.heap.size (by rfl) (.tmp 48) (.tmp 52) 26 43 (.agg #[(.int .i64 0), (.int .i64 0)]) 16 rfl Try.underlying26 info43 rfl t29_ t46_ v232 y231 t234 _ _ _ (fun k_ => some k_ ≠ (.slice (some ad225) t222.length co5 : Value).ownBlock ∧ some k_ ≠ (.slice Ao32 t234.length co32 : Value).ownBlock ∧ k_ ≠ gb226) (fun _ => False) rfl rfl ?aO ?aR (fun _ _ h => h) (fun _ h => h.elim) ?aF ?aB ?aS ?aL ?_
             (case aR => repeat (first | exact (Kd.R_reads' HO236.out).2.2 | (with_reducible refine Kd.C_alloc ?_ _) | (with_reducible refine Kd.C_drewN ?_ _) | (with_reducible refine Kd.C_drew ?_)))
             (case aB => exact (L_ HB.out GE226.out GE226.out GE226.out))
             (case aF => exact (fun k_ hk => ⟨Kd.fresh' (Kd.R_lt (R_ HO_8.out)) k_ hk, Kd.fresh' (Kd.R_lt (R_ HO236.out)) k_ hk, Kd.freshB (B_ BK226.out) k_ hk⟩))
             (case aO => exact (by (with_reducible repeat (first | apply Kd.R_alloc | apply Kd.R_drewN | apply Kd.R_drew)); exact Kd.R_mono HO233.out (fun _ hk => ⟨hk.2.1, ⟨hk.1, hk.2.2⟩⟩)))
             (case aS => exact (below_size (L_ HB.out GE226.out GE226.out GE226.out)))
             (case aL => have := LMc24.out; omega)
             intro v238 w31 ho hb hg hat
             rw [← Ny237.out] at ho; have n0_ := a_ (Kd.R_after (ok := (fun k_ => some k_ ≠ (.slice Ao32 t234.length co32 : Value).ownBlock ∧ k_ ≠ gb226)) (by (with_reducible repeat (first | apply Kd.R_alloc | apply Kd.R_drewN | apply Kd.R_drew)); exact Kd.R_mono HO_8.out (fun _ hk => ⟨⟨hk.2.1, hk.2.2⟩, hk.1⟩)) hg hat); have n1_ := a_ (blk_grown (B_ BK226.out) hg (Kd.R_away HO233.out (fun _ hk => hk.2.2))); have n2_ := a_ (Kd.R_after (ok := (fun k_ => some k_ ≠ (.slice (some ad225) t222.length co5 : Value).ownBlock ∧ k_ ≠ gb226)) (by (with_reducible repeat (first | apply Kd.R_alloc | apply Kd.R_drewN | apply Kd.R_drew)); exact Kd.R_mono HO236.out (fun _ hk => ⟨⟨hk.2.1, hk.2.2⟩, hk.1⟩)) hg hat); have n3_ := a_ (hb); have n4_ := a_ (ho); clear HO_8; clear BK226; clear HO236; clear HB; clear HO233; have HO_8 := n0_; have BK226 := n1_; have HO236 := n2_; have HB := n3_; have HO239 := n4_; clear n0_ n1_ n2_ n3_ n4_; clear ho hb hg hat
             refine hK.out _ _ ⟨c_ BK226.out 0, c_ BK226.out 1⟩ (fun hHeld => ?_)
             clear hK K
             refine norm_ (a' := ?_) ?_ ?_
             rotate_left
             ·
              show Act.put _ (some 53) _ = _
              simp only [Act.put, List.setIfInBounds_toArray, List.set_cons_zero, List.set_cons_succ, i64_w, i32_w]
              rfl
             refine pure_ (i := 7) (N := some 4) (v := ?_) (a' := ?_) #[true, true, true, true, true, true, true, true] rfl rfl (any_of HT_.out t1_) (fun _ _ _ h => h) (Or.inl ⟨by rfl, ?_⟩) ?_ ?_
             rotate_left
             ·
              intro w'
              go_simp
              with_reducible rfl
             rotate_left
             ·
              simp only [Act.put, List.setIfInBounds_toArray, List.set_cons_zero, List.set_cons_succ, i64_w, i32_w]
              rfl
             refine done_ (done_of HT_.out t1_) ?_
             try go_wp2
             go_ret
             exact ⟨_, by first | rfl | (simp [errW_none, errW_some] <;> rfl) | (simp [*, errW_none, errW_some] <;> rfl), by (with_reducible repeat (first | apply Kd.R_alloc | apply Kd.R_drewN | apply Kd.R_drew)); exact Kd.R_mono HO239.out (fun _ hk => trivial), by repeat (first | (with_reducible first | exact HB.out | apply below_alloc | apply pw_below_drewN | apply below_drew1 | refine below_set ?_ GE226.out) | exact HB.out)⟩
            ·
             rw [if_neg c24] at H
             exact absurd H t31_
           ·
            rw [if_neg c22] at H; have c22b0 : decide (0 < t230) = false := decide_eq_false c22; clear c22; have H' := a_ H; clear H
            go_wp2_with (first | (go_at_call 39; (with_reducible refine (spec_daFinishes.calls kj8 (wrap64 (a0 - (wrap64 (((rd_T43 t222 x10_1).f0) * ((rd_T43 t222 x10_1).f1))))) (wrap64 (a1 - 1)) t230 _ A21.out).mono ?_); rintro e w33 ⟨rfl, hb⟩; have n0_ := a_ (Kd.R_below (R_ HO_8.out) hb); have n1_ := bb_ BK226 hb; have n2_ := a_ (below_step (L_ HB.out GE226.out GE226.out GE226.out) hb); clear HO_8; clear BK226; clear HB; have HO_8 := n0_; have BK226 := n1_; have HB := n2_; clear n0_ n1_ n2_; (try clear hb); (try clear hb2); (try clear hk); (try clear hi)))
            go_roundg kj8
            case measure => have := HK1.out; have := HJ8.out; omega
            case rel => exact ⟨(wrap64 (x10_1 + 1)), t2_, H', ⟨t60_⟩, ⟨t36_⟩, ⟨L_ HB.out GE226.out GE226.out GE226.out⟩⟩
          ·
           rw [if_neg c20] at H; have c20b0 : decide (0 < (wrap64 (a0 - (wrap64 (((rd_T43 t222 x10_1).f0) * ((rd_T43 t222 x10_1).f1)))))) = false := decide_eq_false c20; clear c20; have H' := a_ H; clear H
           go_wp2
           go_roundg kj8
           case measure => have := HK1.out; have := HJ8.out; omega
           case rel => exact ⟨(wrap64 (x10_1 + 1)), t2_, H', ⟨t60_⟩, ⟨t36_⟩, ⟨L_ HB.out GE226.out GE226.out GE226.out⟩⟩
         ·
          rw [if_neg c19] at H; have c19b0 : decide (1 < a1) = false := decide_eq_false c19; clear c19; have H' := a_ H; clear H
          go_wp2
          go_roundg kj8
          case measure => have := HK1.out; have := HJ8.out; omega
          case rel => exact ⟨(wrap64 (x10_1 + 1)), t2_, H', ⟨t60_⟩, ⟨t36_⟩, ⟨L_ HB.out GE226.out GE226.out GE226.out⟩⟩
     ·
      rw [if_neg c8] at H
      exact absurd H t31_
    ·
     rw [if_neg c7] at H
     exact absurd H t31_
   ·
    rw [if_neg c6] at H; have c6b0 : decide (x10_1 < (t222.length : Int)) = false := decide_eq_false c6; clear c6; obtain rfl := Option.some.inj H
    go_wp2
    go_ret
    exact ⟨_, by first | rfl | (simp [errW_none, errW_some] <;> rfl) | (simp [*, errW_none, errW_some] <;> rfl), by first | exact Kd.R_nil _ _ _ _ _ | exact Kd.N_nil _ _ _ _ _ | exact Kd.V_nil _ _ _ _ _ | exact Kd.Q_nil _ _ _ _ _ | exact Kd.S_nil _ _ _ _ _, by repeat (first | (with_reducible first | exact HB.out | apply below_alloc | apply pw_below_drewN | apply below_drew1) | exact HB.out)⟩
mutual
def spec_FirstFinish.j0 : Nat → Int → Int → Bool → Option ((List (S43)) × Bool)
 | 0, _, _, _ => none
 | k + 1, x0, x1, x14 => if x14 = true then (some (([] : List (S43)), false)) else (spec_FirstFinish.l0 k x0 x1 1)
def spec_FirstFinish.l0 : Nat → Int → Int → Int → Option ((List (S43)) × Bool)
 | 0, _, _, _ => none
 | k + 1, x0, x1, x6 => if x6 ≤ x1 then ((spec_daFinishes.f k x0 x6).bind fun t242 => (if t242 > 0 then ((spec_daFirst.f k x0 x6).bind fun t243 => (some (t243, true))) else (spec_FirstFinish.l0 k x0 x1 (wrap64 (x6 + 1))))) else (some (([] : List (S43)), false))
end
def spec_FirstFinish.f (k : Nat) (a0 : Int) (a1 : Int) : Option ((List (S43)) × Bool) := (spec_daLeft.f a0).bind fun t240 => (if t240 = true then ((spec_daDarts.f a1).bind fun t241 => (spec_FirstFinish.j0 k a0 a1 (!t241))) else (spec_FirstFinish.j0 k a0 a1 true))
set_option maxHeartbeats 8000000 in
set_option maxRecDepth 100000 in
theorem spec_FirstFinish.calls (k : Nat) (a0 : Int) (a1 : Int) (r1 : List (S43)) (r2 : Bool) (w : World) (h : spec_FirstFinish.f k a0 a1 = some (r1, r2)) :
  Calls Try.prog 7 #[.int .i64 a0, .int .i64 a1] w fun e w' => ∃ v0_ : Value, e = .returned (.tuple #[v0_, .bool r2]) ∧ Kd.R k43 43 w' w.heap.size (fun _ => True) v0_ r1 ∧ Below w.heap.size w w' := by
 have HB := a_ (Below.refl w.heap.size w); have H : ((spec_daLeft.f a0).bind fun t240 => (if t240 = true then ((spec_daDarts.f a1).bind fun t241 => (spec_FirstFinish.j0 k a0 a1 (!t241))) else (spec_FirstFinish.j0 k a0 a1 true))) = some (r1, r2) := h; clear h; have HC3 := a_ H; clear H
 go_enter Try.func7, Try.ntmps7
 go_upto_region 1 with (fail)
 go_cut [14] (fun v14 wc => ∃ (kq : Nat) (x14_2 : Bool), v14 = .bool x14_2 ∧ Aside0 (spec_FirstFinish.j0 kq a0 a1 x14_2 = some (r1, r2)) ∧ Aside0 (kq ≤ k) ∧ Aside0 (Below w.heap.size w wc))
 case first =>
  have H := HC3.out; clear HC3; replace H := Option.bind_eq_some_iff.mp H; obtain ⟨t240, A40, H⟩ := H; replace H : (if t240 = true then ((spec_daDarts.f a1).bind fun t241 => (spec_FirstFinish.j0 k a0 a1 (!t241))) else (spec_FirstFinish.j0 k a0 a1 true)) = some (r1, r2) := H; have A4 := a_ A40; clear A40
  by_cases c5 : t240 = true
  ·
   subst c5; have H1 : ((spec_daDarts.f a1).bind fun t241 => (spec_FirstFinish.j0 k a0 a1 (!t241))) = some (r1, r2) := by rw [if_pos rfl] at H; exact H
   clear H; have H := H1; clear H1; replace H := Option.bind_eq_some_iff.mp H; obtain ⟨t241, A60, H⟩ := H; replace H : (spec_FirstFinish.j0 k a0 a1 (!t241)) = some (r1, r2) := H; have A6 := a_ A60; clear A60; have H' := a_ H; clear H
   go_wp2_with (first | ((with_reducible refine gate_callee (f := 37) rfl ?_); refine goesL_ (some 8) rfl rfl Try.func37 t1_ rfl #[.int .i64 a0] rfl (by (try simp only [m1_, m2_, m3_]); first | done | rfl) ?_; (with_reducible refine (spec_daLeft.calls a0 true _ A4.out).mono ?_); rintro e w' ⟨rfl, ⟨nd, rfl⟩⟩; refine ⟨_, rfl, ?_⟩) | (go_at_call 38; (with_reducible refine (spec_daDarts.calls a1 t241 _ A6.out).mono ?_); rintro e w' ⟨rfl, ⟨nd, rfl⟩⟩))
   go_meet
   case rel => exact ⟨_, (!t241), t2_, H', ⟨t38_⟩, ⟨L_ HB.out (Nat.le_refl _) (Nat.le_refl _) (Nat.le_refl _)⟩⟩
  ·
   replace c5 := Bool.eq_false_iff.mpr c5; subst c5; have H1 : (spec_FirstFinish.j0 k a0 a1 true) = some (r1, r2) := by rw [if_neg (show ¬ (false = true) by decide)] at H; exact H
   clear H; have H := H1; clear H1; have H' := a_ H; clear H
   go_wp2_with (first | ((with_reducible refine gate_callee (f := 37) rfl ?_); refine goesL_ (some 8) rfl rfl Try.func37 t1_ rfl #[.int .i64 a0] rfl (by (try simp only [m1_, m2_, m3_]); first | done | rfl) ?_; (with_reducible refine (spec_daLeft.calls a0 false _ A4.out).mono ?_); rintro e w' ⟨rfl, ⟨nd, rfl⟩⟩; refine ⟨_, rfl, ?_⟩))
   go_meet
   case rel => exact ⟨_, (true), t2_, H', ⟨t38_⟩, ⟨L_ HB.out (Nat.le_refl _) (Nat.le_refl _) (Nat.le_refl _)⟩⟩
 case rest =>
  clear HC3; obtain ⟨kq, x14_2, rfl, HA, HJ2, HB⟩ := hcut
  cases kq with
  | zero => exact absurd HA.out (by simp [spec_FirstFinish.j0])
  | succ kj2 =>
   have H := HA.out; clear HA; simp only [spec_FirstFinish.j0] at H
   by_cases c7 : x14_2 = true
   ·
    subst c7; have H1 : (some (([] : List (S43)), false)) = some (r1, r2) := by rw [if_pos rfl] at H; exact H
    clear H; have H := H1; clear H1; simp only [Option.some.injEq, Prod.mk.injEq] at H; obtain ⟨rfl, rfl⟩ := H
    go_wp2
    go_ret2
    exact ⟨_, by first | rfl | (simp [errW_none, errW_some] <;> rfl) | (simp [*, errW_none, errW_some] <;> rfl), by first | exact Kd.R_nil _ _ _ _ _ | exact Kd.N_nil _ _ _ _ _ | exact Kd.V_nil _ _ _ _ _ | exact Kd.Q_nil _ _ _ _ _ | exact Kd.S_nil _ _ _ _ _, by repeat (first | (with_reducible first | exact HB.out | apply below_alloc | apply pw_below_drewN | apply below_drew1) | exact HB.out)⟩
   ·
    replace c7 := Bool.eq_false_iff.mpr c7; subst c7; have H1 : (spec_FirstFinish.l0 kj2 a0 a1 1) = some (r1, r2) := by rw [if_neg (show ¬ (false = true) by decide)] at H; exact H
    clear H; have H := H1; clear H1; have H' := a_ H; clear H
    go_wp2
    go_loopg [6] kj2 (fun kq v6 w' => ∃ (x6_2 : Int), v6 = .int .i64 x6_2 ∧ Aside0 (spec_FirstFinish.l0 kq a0 a1 x6_2 = some (r1, r2)) ∧ Aside0 (kq ≤ kj2) ∧ Aside0 (Below w.heap.size w w'))
    case atStart => exact ⟨(1), t2_, H', ⟨Nat.le_refl _⟩, ⟨L_ HB.out (Nat.le_refl _) (Nat.le_refl _) (Nat.le_refl _)⟩⟩
    case round =>
     clear H'; obtain ⟨x6_2, rfl, HA, HK2, HB⟩ := hrel
     cases gk with
     | zero => exact absurd HA.out (by simp [spec_FirstFinish.l0])
     | succ k2 =>
      have H := HA.out; clear HA; simp only [spec_FirstFinish.l0] at H
      by_cases c8 : x6_2 ≤ a1
      ·
       rw [if_pos c8] at H; have c8b0 : decide (x6_2 ≤ a1) = true := decide_eq_true c8; clear c8; replace H := Option.bind_eq_some_iff.mp H; obtain ⟨t242, A90, H⟩ := H; replace H : (if t242 > 0 then ((spec_daFirst.f k2 a0 x6_2).bind fun t243 => (some (t243, true))) else (spec_FirstFinish.l0 k2 a0 a1 (wrap64 (x6_2 + 1)))) = some (r1, r2) := H; have A9 := a_ A90; clear A90
       by_cases c10 : t242 > 0
       ·
        rw [if_pos c10] at H; have c10b0 : decide (0 < t242) = true := decide_eq_true c10; clear c10; replace H := Option.bind_eq_some_iff.mp H; obtain ⟨t243, A110, H⟩ := H; replace H : (some (t243, true)) = some (r1, r2) := H; have A11 := a_ A110; clear A110; simp only [Option.some.injEq, Prod.mk.injEq] at H; obtain ⟨rfl, rfl⟩ := H
        go_wp2_with (first | ((with_reducible refine gate_callee (f := 39) rfl ?_); refine goesL_ (some 22) rfl rfl Try.func39 t1_ rfl #[.int .i64 a0, .int .i64 x6_2] rfl (by (try simp only [m1_, m2_, m3_]); first | done | rfl) ?_; (with_reducible refine (spec_daFinishes.calls k2 a0 x6_2 t242 _ A9.out).mono ?_); rintro e w12 ⟨rfl, hb⟩; refine ⟨_, rfl, ?_⟩; have n0_ := a_ (below_step (L_ HB.out (Nat.le_refl _) (Nat.le_refl _) (Nat.le_refl _)) hb); clear HB; have HB := n0_; clear n0_; (try clear hb); (try clear hb2); (try clear hk); (try clear hi)) | ((with_reducible refine gate_callee (f := 40) rfl ?_); refine goesL_ (some 26) rfl rfl Try.func40 t1_ rfl #[.int .i64 a0, .int .i64 x6_2] rfl (by (try simp only [m1_, m2_, m3_]); first | done | rfl) ?_; (with_reducible refine (spec_daFirst.calls k2 a0 x6_2 t243 _ A11.out).mono ?_); rintro e w13 ⟨v244, rfl, ho0, hb⟩; refine ⟨_, rfl, ?_⟩; have n0_ := a_ (Kd.R_lower ho0 (below_size (L_ HB.out (Nat.le_refl _) (Nat.le_refl _) (Nat.le_refl _)))); have n1_ := a_ (below_step (L_ HB.out (Nat.le_refl _) (Nat.le_refl _) (Nat.le_refl _)) hb); clear HB; have HO245 := n0_; have HB := n1_; clear n0_ n1_; (try clear hb); (try clear hb2); (try clear hk); (try clear hi); (try clear ho0)))
        go_ret2
        exact ⟨_, by first | rfl | (simp [errW_none, errW_some] <;> rfl) | (simp [*, errW_none, errW_some] <;> rfl), by (with_reducible repeat (first | apply Kd.R_alloc | apply Kd.R_drewN | apply Kd.R_drew)); exact HO245.out, by repeat (first | (with_reducible first | exact HB.out | apply below_alloc | apply pw_below_drewN | apply below_drew1) | exact HB.out)⟩
       ·
        rw [if_neg c10] at H; have c10b0 : decide (0 < t242) = false := decide_eq_false c10; clear c10; have H' := a_ H; clear H
        go_wp2_with (first | ((with_reducible refine gate_callee (f := 39) rfl ?_); refine goesL_ (some 22) rfl rfl Try.func39 t1_ rfl #[.int .i64 a0, .int .i64 x6_2] rfl (by (try simp only [m1_, m2_, m3_]); first | done | rfl) ?_; (with_reducible refine (spec_daFinishes.calls k2 a0 x6_2 t242 _ A9.out).mono ?_); rintro e w14 ⟨rfl, hb⟩; refine ⟨_, rfl, ?_⟩; have n0_ := a_ (below_step (L_ HB.out (Nat.le_refl _) (Nat.le_refl _) (Nat.le_refl _)) hb); clear HB; have HB := n0_; clear n0_; (try clear hb); (try clear hb2); (try clear hk); (try clear hi)))
        go_roundg k2
        case measure => have := HJ2.out; have := HK2.out; omega
        case rel => exact ⟨(wrap64 (x6_2 + 1)), t2_, H', ⟨by have := HJ2.out; have := HK2.out; omega⟩, ⟨L_ HB.out (Nat.le_refl _) (Nat.le_refl _) (Nat.le_refl _)⟩⟩
      ·
       rw [if_neg c8] at H; have c8b0 : decide (x6_2 ≤ a1) = false := decide_eq_false c8; clear c8; simp only [Option.some.injEq, Prod.mk.injEq] at H; obtain ⟨rfl, rfl⟩ := H
       go_wp2
       go_ret2
       exact ⟨_, by first | rfl | (simp [errW_none, errW_some] <;> rfl) | (simp [*, errW_none, errW_some] <;> rfl), by first | exact Kd.R_nil _ _ _ _ _ | exact Kd.N_nil _ _ _ _ _ | exact Kd.V_nil _ _ _ _ _ | exact Kd.Q_nil _ _ _ _ _ | exact Kd.S_nil _ _ _ _ _, by repeat (first | (with_reducible first | exact HB.out | apply below_alloc | apply pw_below_drewN | apply below_drew1) | exact HB.out)⟩
def spec_daCan.l0 : Nat → Int → Int → Int → Option (Bool)
 | 0, _, _, _ => none
 | k + 1, x0, x1, x5 => if x5 ≤ x1 then ((spec_daFinishes.f k x0 x5).bind fun t246 => (if t246 > 0 then (some true) else (spec_daCan.l0 k x0 x1 (wrap64 (x5 + 1))))) else (some false)
def spec_daCan.f (k : Nat) (a0 : Int) (a1 : Int) : Option (Bool) := spec_daCan.l0 k a0 a1 1
set_option maxHeartbeats 8000000 in
set_option maxRecDepth 100000 in
theorem spec_daCan.calls (k : Nat) (a0 : Int) (a1 : Int) (r : Bool) (w : World) (h : spec_daCan.f k a0 a1 = some r) :
  Calls Try.prog 43 #[.int .i64 a0, .int .i64 a1] w fun e w' => e = .returned (.bool r) ∧ Below w.heap.size w w' := by
 have HB := a_ (Below.refl w.heap.size w); have H : (spec_daCan.l0 k a0 a1 1) = some r := h; clear h; have H' := a_ H; clear H
 go_enter Try.func43, Try.ntmps43
 go_wp2
 go_loopg [5] k (fun kq v5 w' => ∃ (x5_1 : Int), v5 = .int .i64 x5_1 ∧ Aside0 (spec_daCan.l0 kq a0 a1 x5_1 = some r) ∧ Aside0 (kq ≤ k) ∧ Aside0 (Below w.heap.size w w'))
 case atStart => exact ⟨(1), t2_, H', ⟨Nat.le_refl _⟩, ⟨L_ HB.out (Nat.le_refl _) (Nat.le_refl _) (Nat.le_refl _)⟩⟩
 case round =>
  clear H'; obtain ⟨x5_1, rfl, HA, HK1, HB⟩ := hrel
  cases gk with
  | zero => exact absurd HA.out (by simp [spec_daCan.l0])
  | succ k1 =>
   have H := HA.out; clear HA; simp only [spec_daCan.l0] at H
   by_cases c3 : x5_1 ≤ a1
   ·
    rw [if_pos c3] at H; have c3b0 : decide (x5_1 ≤ a1) = true := decide_eq_true c3; clear c3; replace H := Option.bind_eq_some_iff.mp H; obtain ⟨t246, A40, H⟩ := H; replace H : (if t246 > 0 then (some true) else (spec_daCan.l0 k1 a0 a1 (wrap64 (x5_1 + 1)))) = some r := H; have A4 := a_ A40; clear A40
    by_cases c5 : t246 > 0
    ·
     rw [if_pos c5] at H; have c5b0 : decide (0 < t246) = true := decide_eq_true c5; clear c5; obtain rfl := Option.some.inj H
     go_wp2_with (first | ((with_reducible refine gate_callee (f := 39) rfl ?_); refine goesL_ (some 13) rfl rfl Try.func39 t1_ rfl #[.int .i64 a0, .int .i64 x5_1] rfl (by (try simp only [m1_, m2_, m3_]); first | done | rfl) ?_; (with_reducible refine (spec_daFinishes.calls k1 a0 x5_1 t246 _ A4.out).mono ?_); rintro e w6 ⟨rfl, hb⟩; refine ⟨_, rfl, ?_⟩; have n0_ := a_ (below_step (L_ HB.out (Nat.le_refl _) (Nat.le_refl _) (Nat.le_refl _)) hb); clear HB; have HB := n0_; clear n0_; (try clear hb); (try clear hb2); (try clear hk); (try clear hi)))
     go_ret
     exact ⟨by first | rfl | (simp [errW_none, errW_some] <;> rfl) | (simp [*, errW_none, errW_some] <;> rfl), by repeat (first | (with_reducible first | exact HB.out | apply below_alloc | apply pw_below_drewN | apply below_drew1) | exact HB.out)⟩
    ·
     rw [if_neg c5] at H; have c5b0 : decide (0 < t246) = false := decide_eq_false c5; clear c5; have H' := a_ H; clear H
     go_wp2_with (first | ((with_reducible refine gate_callee (f := 39) rfl ?_); refine goesL_ (some 13) rfl rfl Try.func39 t1_ rfl #[.int .i64 a0, .int .i64 x5_1] rfl (by (try simp only [m1_, m2_, m3_]); first | done | rfl) ?_; (with_reducible refine (spec_daFinishes.calls k1 a0 x5_1 t246 _ A4.out).mono ?_); rintro e w7 ⟨rfl, hb⟩; refine ⟨_, rfl, ?_⟩; have n0_ := a_ (below_step (L_ HB.out (Nat.le_refl _) (Nat.le_refl _) (Nat.le_refl _)) hb); clear HB; have HB := n0_; clear n0_; (try clear hb); (try clear hb2); (try clear hk); (try clear hi)))
     go_roundg k1
     case measure => have := HK1.out; omega
     case rel => exact ⟨(wrap64 (x5_1 + 1)), t2_, H', ⟨t52_⟩, ⟨L_ HB.out (Nat.le_refl _) (Nat.le_refl _) (Nat.le_refl _)⟩⟩
   ·
    rw [if_neg c3] at H; have c3b0 : decide (x5_1 ≤ a1) = false := decide_eq_false c3; clear c3; obtain rfl := Option.some.inj H
    go_wp2
    go_ret
    exact ⟨by first | rfl | (simp [errW_none, errW_some] <;> rfl) | (simp [*, errW_none, errW_some] <;> rfl), by repeat (first | (with_reducible first | exact HB.out | apply below_alloc | apply pw_below_drewN | apply below_drew1) | exact HB.out)⟩
end Go.Proofs.Ytacmfgbeaoalfaa.QFnDartsFinish
