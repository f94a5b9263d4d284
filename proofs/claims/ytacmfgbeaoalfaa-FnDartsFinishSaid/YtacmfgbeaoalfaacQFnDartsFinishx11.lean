/- Functions of this law, printed out of the translation: what each computes, and that its code answers so. No condition. -/
import Derived.Test.YtacmfgbeaoalfaacQFnDartsFinishx0
import Derived.Test.YtacmfgbeaoalfaacQFnDartsFinishx2
import Derived.Test.YtacmfgbeaoalfaacQFnDartsFinishx3
import Derived.Test.YtacmfgbeaoalfaacQFnDartsFinishx5
import Derived.Test.YtacmfgbeaoalfaacGAre
import Derived.Test.YtacmfgbeaoalfaacGCur
import Derived.Test.YtacmfgbeaoalfaacGQ
namespace Go.Proofs.Ytacmfgbeaoalfaa.QFnDartsFinish
open Go.RowKit Go.Proofs.YtacmfgbeaoalfaaW.PrintWords Go.Proofs.YtacmfgbeaoalfaaW.PrintLast Go.Proofs.YtacmfgbeaoalfaaW.PrintMore Go.Proofs.Ytacmfgbeaoalfaa.Sh
attribute [local go_sem] max2_int min2_int max_two min_two max_three min_three max_four min_four
set_option linter.unusedVariables false
set_option linter.unusedSimpArgs false
mutual
def impl_visitLeaves.j0 : Nat → Int → List (S43) → Bool → Option (Int × Bool × Bool)
 | 0, _, _, _ => none
 | k + 1, x0, x1, x25 => if x25 = true then (some (0, false, false)) else (impl_visitLeaves.l0 k x0 x1 x0 x1 (x1.length : Int) 0)
def impl_visitLeaves.l0 : Nat → Int → List (S43) → Int → List (S43) → Int → Int → Option (Int × Bool × Bool)
 | 0, _, _, _, _, _, _ => none
 | k + 1, x0, x1, x7, x27, x28, x29 => if x29 < x28 then (if 0 ≤ x29 then (if x29 < (x27.length : Int) then ((impl_Dart_score.f ((rd_T43 x27 x29).f0) ((rd_T43 x27 x29).f1)).bind fun t346 => (if (wrap64 (x7 - t346)) = 0 then (impl_visitLeaves.j2 k x0 x1 (wrap64 (x7 - t346)) x29 (((rd_T43 x27 x29).f1) == 2) x27 x28 x29) else (impl_visitLeaves.j2 k x0 x1 (wrap64 (x7 - t346)) x29 false x27 x28 x29))) else (none)) else (none)) else (some (x7, false, true))
def impl_visitLeaves.j2 : Nat → Int → List (S43) → Int → Int → Bool → List (S43) → Int → Int → Option (Int × Bool × Bool)
 | 0, _, _, _, _, _, _, _, _ => none
 | k + 1, x0, x1, x7, x8, x10, x27, x28, x29 => if x7 < 0 then (impl_visitLeaves.j3 k x0 x1 x7 x8 x10 true x27 x28 x29) else (if x7 = 1 then (impl_visitLeaves.j3 k x0 x1 x7 x8 x10 true x27 x28 x29) else (if x7 = 0 then (impl_visitLeaves.j3 k x0 x1 x7 x8 x10 (!x10) x27 x28 x29) else (impl_visitLeaves.j3 k x0 x1 x7 x8 x10 false x27 x28 x29)))
def impl_visitLeaves.j3 : Nat → Int → List (S43) → Int → Int → Bool → Bool → List (S43) → Int → Int → Option (Int × Bool × Bool)
 | 0, _, _, _, _, _, _, _, _, _ => none
 | k + 1, x0, x1, x7, x8, x10, x11, x27, x28, x29 => if x10 = true then (impl_visitLeaves.j4 k x0 x1 x7 x11 x27 x28 x29 (decide (x8 < (wrap64 ((x1.length : Int) - 1))))) else (if x11 = true then (impl_visitLeaves.j4 k x0 x1 x7 x11 x27 x28 x29 (decide (x8 < (wrap64 ((x1.length : Int) - 1))))) else (impl_visitLeaves.j4 k x0 x1 x7 x11 x27 x28 x29 false))
def impl_visitLeaves.j4 : Nat → Int → List (S43) → Int → Bool → List (S43) → Int → Int → Bool → Option (Int × Bool × Bool)
 | 0, _, _, _, _, _, _, _, _ => none
 | k + 1, x0, x1, x7, x11, x27, x28, x29, x69 => if x69 = true then (some (0, false, false)) else (if x11 = true then (some (x0, true, true)) else (impl_visitLeaves.l0 k x0 x1 x7 x27 x28 (wrap64 (x29 + 1))))
end
def impl_visitLeaves.f (k : Nat) (a0 : Int) (l1 : List (S43)) : Option (Int × Bool × Bool) := (impl_within.f a0 1 1001).bind fun t341 => (if t341 = true then ((impl_within.f (l1.length : Int) 1 3).bind fun t342 => (if t342 = true then ((impl_areDarts.f l1).bind fun t343 => (impl_visitLeaves.j0 k a0 l1 (!t343))) else (impl_visitLeaves.j0 k a0 l1 true))) else (impl_visitLeaves.j0 k a0 l1 true))
set_option maxHeartbeats 8000000 in
set_option maxRecDepth 100000 in
theorem impl_visitLeaves.calls (k : Nat) (a0 : Int) (A1 : Option Addr) (c1 : Nat) (l1 : List (S43)) (r1 : Int) (r2 : Bool) (r3 : Bool) (w : World) (hr1 : Kd.C k43 w A1 l1.length l1) (hc1 : l1.length ≤ c1) (h : impl_visitLeaves.f k a0 l1 = some (r1, r2, r3)) :
  Calls Try.prog 48 #[.int .i64 a0, .slice A1 l1.length c1] w fun e w' => e = .returned (.tuple #[.int .i64 r1, .bool r2, .bool r3]) ∧ Below w.heap.size w w' := by
 have hu43 := Try.underlying43; have HR1 := a_ hr1; have HC1 := a_ hc1; clear hr1 hc1; have HB := a_ (Below.refl w.heap.size w); have H : ((impl_within.f a0 1 1001).bind fun t341 => (if t341 = true then ((impl_within.f (l1.length : Int) 1 3).bind fun t342 => (if t342 = true then ((impl_areDarts.f l1).bind fun t343 => (impl_visitLeaves.j0 k a0 l1 (!t343))) else (impl_visitLeaves.j0 k a0 l1 true))) else (impl_visitLeaves.j0 k a0 l1 true))) = some (r1, r2, r3) := h; clear h; have HC3 := a_ H; clear H
 go_enter Try.func48, Try.ntmps48
 go_upto_region 1 with (fail)
 go_cut [25] (fun v25 wc => ∃ (kq : Nat) (x25_2 : Bool), v25 = .bool x25_2 ∧ Aside0 (impl_visitLeaves.j0 kq a0 l1 x25_2 = some (r1, r2, r3)) ∧ Aside0 (kq ≤ k) ∧ Aside0 (Below w.heap.size w wc))
 case first =>
  have H := HC3.out; clear HC3; replace H := Option.bind_eq_some_iff.mp H; obtain ⟨t341, A40, H⟩ := H; replace H : (if t341 = true then ((impl_within.f (l1.length : Int) 1 3).bind fun t342 => (if t342 = true then ((impl_areDarts.f l1).bind fun t343 => (impl_visitLeaves.j0 k a0 l1 (!t343))) else (impl_visitLeaves.j0 k a0 l1 true))) else (impl_visitLeaves.j0 k a0 l1 true)) = some (r1, r2, r3) := H; have A4 := a_ A40; clear A40
  by_cases c5 : t341 = true
  ·
   subst c5; have H1 : ((impl_within.f (l1.length : Int) 1 3).bind fun t342 => (if t342 = true then ((impl_areDarts.f l1).bind fun t343 => (impl_visitLeaves.j0 k a0 l1 (!t343))) else (impl_visitLeaves.j0 k a0 l1 true))) = some (r1, r2, r3) := by rw [if_pos rfl] at H; exact H
   clear H; have H := H1; clear H1; replace H := Option.bind_eq_some_iff.mp H; obtain ⟨t342, A60, H⟩ := H; replace H : (if t342 = true then ((impl_areDarts.f l1).bind fun t343 => (impl_visitLeaves.j0 k a0 l1 (!t343))) else (impl_visitLeaves.j0 k a0 l1 true)) = some (r1, r2, r3) := H; have A6 := a_ A60; clear A60
   by_cases c7 : t342 = true
   ·
    subst c7; have H1 : ((impl_areDarts.f l1).bind fun t343 => (impl_visitLeaves.j0 k a0 l1 (!t343))) = some (r1, r2, r3) := by rw [if_pos rfl] at H; exact H
    clear H; have H := H1; clear H1; replace H := Option.bind_eq_some_iff.mp H; obtain ⟨t343, A80, H⟩ := H; replace H : (impl_visitLeaves.j0 k a0 l1 (!t343)) = some (r1, r2, r3) := H; have A8 := a_ A80; clear A80; have H' := a_ H; clear H
    go_wp2_with (first | ((with_reducible refine gate_callee (f := 41) rfl ?_); refine goesL_ (some 13) rfl rfl Try.func41 t1_ rfl #[.int .i64 a0, .int .i64 1, .int .i64 1001] rfl (by (try simp only [m1_, m2_, m3_]); first | done | rfl) ?_; (with_reducible refine (impl_within.calls a0 1 1001 true _ A4.out).mono ?_); rintro e w' ⟨rfl, ⟨nd, rfl⟩⟩; refine ⟨_, rfl, ?_⟩) | (go_at_call 41; (with_reducible refine (impl_within.calls (l1.length : Int) 1 3 true _ A6.out).mono ?_); rintro e w' ⟨rfl, ⟨nd, rfl⟩⟩) | (go_at_call 56; (with_reducible refine (impl_areDarts.calls _ _ l1 t343 _ ?side1 ?side2 A8.out).mono ?_); (case side1 => repeat (first | exact (Kd.C_below HR1.out (L_ HB.out (Nat.le_refl _) (Nat.le_refl _) (Nat.le_refl _))) | (with_reducible refine Kd.C_alloc ?_ _) | (with_reducible refine Kd.C_drewN ?_ _) | (with_reducible refine Kd.C_drew ?_))); (case side2 => exact HC1.out); rintro e w9 ⟨rfl, hb⟩; have n0_ := a_ (below_step (L_ HB.out (Nat.le_refl _) (Nat.le_refl _) (Nat.le_refl _)) hb); clear HB; have HB := n0_; clear n0_; (try clear hb); (try clear hb2); (try clear hk); (try clear hi)))
    go_meet
    case rel => exact ⟨_, (!t343), t2_, H', ⟨t38_⟩, ⟨L_ HB.out (Nat.le_refl _) (Nat.le_refl _) (Nat.le_refl _)⟩⟩
   ·
    replace c7 := Bool.eq_false_iff.mpr c7; subst c7; have H1 : (impl_visitLeaves.j0 k a0 l1 true) = some (r1, r2, r3) := by rw [if_neg (show ¬ (false = true) by decide)] at H; exact H
    clear H; have H := H1; clear H1; have H' := a_ H; clear H
    go_wp2_with (first | ((with_reducible refine gate_callee (f := 41) rfl ?_); refine goesL_ (some 13) rfl rfl Try.func41 t1_ rfl #[.int .i64 a0, .int .i64 1, .int .i64 1001] rfl (by (try simp only [m1_, m2_, m3_]); first | done | rfl) ?_; (with_reducible refine (impl_within.calls a0 1 1001 true _ A4.out).mono ?_); rintro e w' ⟨rfl, ⟨nd, rfl⟩⟩; refine ⟨_, rfl, ?_⟩) | (go_at_call 41; (with_reducible refine (impl_within.calls (l1.length : Int) 1 3 false _ A6.out).mono ?_); rintro e w' ⟨rfl, ⟨nd, rfl⟩⟩))
    go_meet
    case rel => exact ⟨_, (true), t2_, H', ⟨t38_⟩, ⟨L_ HB.out (Nat.le_refl _) (Nat.le_refl _) (Nat.le_refl _)⟩⟩
  ·
   replace c5 := Bool.eq_false_iff.mpr c5; subst c5; have H1 : (impl_visitLeaves.j0 k a0 l1 true) = some (r1, r2, r3) := by rw [if_neg (show ¬ (false = true) by decide)] at H; exact H
   clear H; have H := H1; clear H1; have H' := a_ H; clear H
   go_wp2_with (first | ((with_reducible refine gate_callee (f := 41) rfl ?_); refine goesL_ (some 13) rfl rfl Try.func41 t1_ rfl #[.int .i64 a0, .int .i64 1, .int .i64 1001] rfl (by (try simp only [m1_, m2_, m3_]); first | done | rfl) ?_; (with_reducible refine (impl_within.calls a0 1 1001 false _ A4.out).mono ?_); rintro e w' ⟨rfl, ⟨nd, rfl⟩⟩; refine ⟨_, rfl, ?_⟩))
   go_meet
   case rel => exact ⟨_, (true), t2_, H', ⟨t38_⟩, ⟨L_ HB.out (Nat.le_refl _) (Nat.le_refl _) (Nat.le_refl _)⟩⟩
 case rest =>
  clear HC3; obtain ⟨kq, x25_2, rfl, HA, HJ2, HB⟩ := hcut
  cases kq with
  | zero => exact absurd HA.out (by simp [impl_visitLeaves.j0])
  | succ kj2 =>
   have H := HA.out; clear HA; simp only [impl_visitLeaves.j0] at H
   by_cases c10 : x25_2 = true
   ·
    subst c10; have H1 : (some (0, false, false)) = some (r1, r2, r3) := by rw [if_pos rfl] at H; exact H
    clear H; have H := H1; clear H1; simp only [Option.some.injEq, Prod.mk.injEq] at H; obtain ⟨rfl, rfl, rfl⟩ := H
    go_wp2
    go_ret3
    exact ⟨by first | rfl | (simp [errW_none, errW_some] <;> rfl) | (simp [*, errW_none, errW_some] <;> rfl), by repeat (first | (with_reducible first | exact HB.out | apply below_alloc | apply pw_below_drewN | apply below_drew1) | exact HB.out)⟩
   ·
    replace c10 := Bool.eq_false_iff.mpr c10; subst c10; have H1 : (impl_visitLeaves.l0 kj2 a0 l1 a0 l1 (l1.length : Int) 0) = some (r1, r2, r3) := by rw [if_neg (show ¬ (false = true) by decide)] at H; exact H
    clear H; have H := H1; clear H1; have H' := a_ H; clear H
    go_wp2
    go_loopg [7, 29] kj2 (fun kq v7 v29 w' => ∃ (x7_2 : Int) (x29_2 : Int), v7 = .int .i64 x7_2 ∧ v29 = .int .i64 x29_2 ∧ Aside0 (impl_visitLeaves.l0 kq a0 l1 x7_2 l1 (l1.length : Int) x29_2 = some (r1, r2, r3)) ∧ Aside0 (kq ≤ kj2) ∧ Aside0 (Below w.heap.size w w'))
    case atStart => exact ⟨(a0), (0), t2_, t2_, H', ⟨Nat.le_refl _⟩, ⟨L_ HB.out (Nat.le_refl _) (Nat.le_refl _) (Nat.le_refl _)⟩⟩
    case round =>
     clear H'; obtain ⟨x7_2, x29_2, rfl, rfl, HA, HK2, HB⟩ := hrel
     cases gk with
     | zero => exact absurd HA.out (by simp [impl_visitLeaves.l0])
     | succ k2 =>
      have H := HA.out; clear HA; simp only [impl_visitLeaves.l0] at H
      by_cases c11 : x29_2 < (l1.length : Int)
      ·
       rw [if_pos c11] at H; have c11b0 : decide (x29_2 < (l1.length : Int)) = true := decide_eq_true c11; clear c11
       by_cases c12 : 0 ≤ x29_2
       ·
        rw [if_pos c12] at H; have c12b0 : decide (0 ≤ x29_2) = true := decide_eq_true c12; clear c12
        by_cases c13 : x29_2 < (l1.length : Int)
        ·
         rw [if_pos c13] at H; have c13b0 : decide (x29_2 < (l1.length : Int)) = true := decide_eq_true c13; clear c13; replace H := Option.bind_eq_some_iff.mp H; obtain ⟨t346, A140, H⟩ := H; replace H : (if (wrap64 (x7_2 - t346)) = 0 then (impl_visitLeaves.j2 k2 a0 l1 (wrap64 (x7_2 - t346)) x29_2 (((rd_T43 l1 x29_2).f1) == 2) l1 (l1.length : Int) x29_2) else (impl_visitLeaves.j2 k2 a0 l1 (wrap64 (x7_2 - t346)) x29_2 false l1 (l1.length : Int) x29_2)) = some (r1, r2, r3) := H; have A14 := a_ A140; clear A140; have HC15 := a_ H; clear H; have p344 : 0 ≤ (x29_2 : Int) := of_decide_eq_true t0_; have q344 : x29_2 < (l1.length : Int) := of_decide_eq_true t0_; obtain ⟨ad344, e344, hx344_0, hx344_1⟩ := at_T43 HR1.out x29_2 p344 q344
         cases e344
         replace hx344_0 := (HB.out.cell (World.block_lt_of_cell? w _ hx344_0)).trans hx344_0; replace hx344_1 := (HB.out.cell (World.block_lt_of_cell? w _ hx344_1)).trans hx344_1; replace p344 := eq_true p344; replace q344 := eq_true q344
         go_upto_region 8 with (first | ((with_reducible refine gate_dst (N := 9) rfl ?_); (try (refine gate_guard (by rfl) ?_; dsimp only)); refine box_event ?hg (N := 9) ?hd (cs := #[.int .i64 0, .int .i64 0]) (t := 43) ?hr ?_; (case hd => rfl); (case hg => rfl); (case hr => first | (go_simp; done) | (go_simp; rfl)); intro gb345 hg w16 hbox hb; have n0_ := a_ (below_step (L_ HB.out (Nat.le_refl _) (Nat.le_refl _) (Nat.le_refl _)) hb); have n1_ := a_ (hbox); have n2_ := a_ ((by rw [hg]; exact (below_size (L_ HB.out (Nat.le_refl _) (Nat.le_refl _) (Nat.le_refl _))) : w.heap.size ≤ gb345)); have n3_ := a_ ((by rw [hg]; exact (below_size (L_ HB.out (Nat.le_refl _) (Nat.le_refl _) (Nat.le_refl _))) : w.heap.size ≤ gb345)); clear HB; have HB := n0_; have BK345 := n1_; have GW345 := n2_; have GE345 := n3_; clear n0_ n1_ n2_ n3_; clear hb hbox hg; have hcz17_0 : w16.cell? ⟨gb345, 0, none⟩ = some (.int .i64 0) := c_ BK345.out 0; have hcz17_1 : w16.cell? ⟨gb345, 1, none⟩ = some (.int .i64 0) := c_ BK345.out 1; have hfz17_0 := blk_frozen BK345.out 0; have hfz17_1 := blk_frozen BK345.out 1) | ((with_reducible refine gate_callee (f := 36) rfl ?_); refine goesL_ (some 36) rfl rfl Try.func36 t1_ rfl #[.agg #[.int .i64 ((rd_T43 l1 x29_2).f0), .int .i64 ((rd_T43 l1 x29_2).f1)]] rfl (by (try simp only [m1_, m2_, m3_]); first | done | rfl) ?_; (with_reducible refine (impl_Dart_score.calls ((rd_T43 l1 x29_2).f0) ((rd_T43 l1 x29_2).f1) t346 _ A14.out).mono ?_); rintro e w18 ⟨rfl, hb⟩; refine ⟨_, rfl, ?_⟩; have n0_ := a_ (blk_below (g := gb345) (o := .cells #[.int .i64 ((rd_T43 l1 x29_2).f0), .int .i64 ((rd_T43 l1 x29_2).f1)] 43 (0, 0)) (by (with_reducible repeat (first | refine blk_drewN ?_ _ | refine blk_drew ?_ | refine blk_alloc ?_ _)); refine blk_put (cs := #[.int .i64 ((rd_T43 l1 x29_2).f0), .int .i64 0]) ?_ 1 _ rfl; (with_reducible repeat (first | refine blk_drewN ?_ _ | refine blk_drew ?_ | refine blk_alloc ?_ _)); refine blk_put (cs := #[.int .i64 0, .int .i64 0]) ?_ 0 _ rfl; exact B_ BK345.out) hb); have n1_ := a_ (below_step (L_ HB.out GE345.out GE345.out GE345.out) hb); clear BK345; clear HB; have BK345 := n0_; have HB := n1_; clear n0_ n1_; (try clear hb); (try clear hb2); (try clear hk); (try clear hi)))
         (try simp only [Act.put, List.setIfInBounds_toArray, List.set_cons_zero, List.set_cons_succ])
         go_cut [10] (fun v10 wc => ∃ (kq : Nat) (x10_14 : Bool), v10 = .bool x10_14 ∧ Aside0 (impl_visitLeaves.j2 kq a0 l1 (wrap64 (x7_2 - t346)) x29_2 x10_14 l1 (l1.length : Int) x29_2 = some (r1, r2, r3)) ∧ Aside0 (kq ≤ k2) ∧ Aside0 (wc.heap[gb345]? = some (.cells #[.int .i64 ((rd_T43 l1 x29_2).f0), .int .i64 ((rd_T43 l1 x29_2).f1)] 43 (0, 0))) ∧ Aside0 (Below w.heap.size w wc))
         case first =>
          have H := HC15.out; clear HC15
          by_cases c19 : (wrap64 (x7_2 - t346)) = 0
          ·
           rw [if_pos c19] at H; have c19b0 : ((wrap64 (x7_2 - t346)) == 0) = true := beq_iff_eq.mpr c19; have c19b1 : ((wrap64 (x7_2 - t346)) != 0) = false := bne_eq_false_iff_eq.mpr c19; clear c19
           (first | rw [c19b0] | (simp only [i64_w, i32_w]; rw [c19b0]) | skip)
           have H' := a_ H; clear H; have hcz20_0 : w18.cell? ⟨gb345, 0, none⟩ = some (.int .i64 ((rd_T43 l1 x29_2).f0)) := c_ BK345.out 0; have hcz20_1 : w18.cell? ⟨gb345, 1, none⟩ = some (.int .i64 ((rd_T43 l1 x29_2).f1)) := c_ BK345.out 1; have hfz20_0 := blk_frozen BK345.out 0; have hfz20_1 := blk_frozen BK345.out 1
           go_wp2
           go_meet
           case rel => exact ⟨_, ((((rd_T43 l1 x29_2).f1) == 2)), t2_, H', ⟨by have := HJ2.out; have := HK2.out; first | omega | exact Nat.le_refl _⟩, ⟨B_ BK345.out⟩, ⟨L_ HB.out GE345.out GE345.out GE345.out⟩⟩
          ·
           rw [if_neg c19] at H; have c19b0 : ((wrap64 (x7_2 - t346)) == 0) = false := beq_eq_false_iff_ne.mpr c19; have c19b1 : ((wrap64 (x7_2 - t346)) != 0) = true := bne_iff_ne.mpr c19
           (first | rw [c19b0] | (simp only [i64_w, i32_w]; rw [c19b0]) | skip)
           have H' := a_ H; clear H
           go_wp2
           go_meet
           case rel => exact ⟨_, (false), t2_, H', ⟨by have := HJ2.out; have := HK2.out; first | omega | exact Nat.le_refl _⟩, ⟨B_ BK345.out⟩, ⟨L_ HB.out GE345.out GE345.out GE345.out⟩⟩
         case rest =>
          clear HC15; obtain ⟨kq, x10_14, rfl, HA, HJ14, BK345, HB⟩ := hcut
          cases kq with
          | zero => exact absurd HA.out (by simp [impl_visitLeaves.j2])
          | succ kj14 =>
           have H := HA.out; clear HA; simp only [impl_visitLeaves.j2] at H; have HC21 := a_ H; clear H
           go_upto_region 9 with (fail)
           go_cut [11] (fun v11 wc => ∃ (kq : Nat) (x11_20 : Bool), v11 = .bool x11_20 ∧ Aside0 (impl_visitLeaves.j3 kq a0 l1 (wrap64 (x7_2 - t346)) x29_2 x10_14 x11_20 l1 (l1.length : Int) x29_2 = some (r1, r2, r3)) ∧ Aside0 (kq ≤ kj14) ∧ Aside0 (wc.heap[gb345]? = some (.cells #[.int .i64 ((rd_T43 l1 x29_2).f0), .int .i64 ((rd_T43 l1 x29_2).f1)] 43 (0, 0))) ∧ Aside0 (Below w.heap.size w wc))
           case first =>
            have H := HC21.out; clear HC21
            by_cases c22 : (wrap64 (x7_2 - t346)) < 0
            ·
             rw [if_pos c22] at H; have c22b0 : decide ((wrap64 (x7_2 - t346)) < 0) = true := decide_eq_true c22; clear c22
             (first | rw [c22b0] | (simp only [i64_w, i32_w]; rw [c22b0]) | skip)
             have H' := a_ H; clear H
             go_wp2
             go_meet
             case rel => exact ⟨_, (true), t2_, H', ⟨t48_⟩, ⟨B_ BK345.out⟩, ⟨L_ HB.out GE345.out GE345.out GE345.out⟩⟩
            ·
             rw [if_neg c22] at H; have c22b0 : decide ((wrap64 (x7_2 - t346)) < 0) = false := decide_eq_false c22; clear c22
             (first | rw [c22b0] | (simp only [i64_w, i32_w]; rw [c22b0]) | skip)
             by_cases c23 : (wrap64 (x7_2 - t346)) = 1
             ·
              rw [if_pos c23] at H; have c23b0 : ((wrap64 (x7_2 - t346)) == 1) = true := beq_iff_eq.mpr c23; have c23b1 : ((wrap64 (x7_2 - t346)) != 1) = false := bne_eq_false_iff_eq.mpr c23; clear c23; have H' := a_ H; clear H
              go_wp2
              go_meet
              case rel => exact ⟨_, (true), t2_, H', ⟨t48_⟩, ⟨B_ BK345.out⟩, ⟨L_ HB.out GE345.out GE345.out GE345.out⟩⟩
             ·
              rw [if_neg c23] at H; have c23b0 : ((wrap64 (x7_2 - t346)) == 1) = false := beq_eq_false_iff_ne.mpr c23; have c23b1 : ((wrap64 (x7_2 - t346)) != 1) = true := bne_iff_ne.mpr c23
              by_cases c24 : (wrap64 (x7_2 - t346)) = 0
              ·
               rw [if_pos c24] at H; have c24b0 : ((wrap64 (x7_2 - t346)) == 0) = true := beq_iff_eq.mpr c24; have c24b1 : ((wrap64 (x7_2 - t346)) != 0) = false := bne_eq_false_iff_eq.mpr c24; clear c24; have H' := a_ H; clear H
               go_wp2
               go_meet
               case rel => exact ⟨_, (!x10_14), t2_, H', ⟨t48_⟩, ⟨B_ BK345.out⟩, ⟨L_ HB.out GE345.out GE345.out GE345.out⟩⟩
              ·
               rw [if_neg c24] at H; have c24b0 : ((wrap64 (x7_2 - t346)) == 0) = false := beq_eq_false_iff_ne.mpr c24; have c24b1 : ((wrap64 (x7_2 - t346)) != 0) = true := bne_iff_ne.mpr c24; have H' := a_ H; clear H
               go_wp2
               go_meet
               case rel => exact ⟨_, (false), t2_, H', ⟨t48_⟩, ⟨B_ BK345.out⟩, ⟨L_ HB.out GE345.out GE345.out GE345.out⟩⟩
           case rest =>
            clear HC21; obtain ⟨kq, x11_20, rfl, HA, HJ20, BK345, HB⟩ := hcut
            cases kq with
            | zero => exact absurd HA.out (by simp [impl_visitLeaves.j3])
            | succ kj20 =>
             have H := HA.out; clear HA; simp only [impl_visitLeaves.j3] at H; have HC25 := a_ H; clear H
             go_upto_region 10 with (fail)
             go_cut [69] (fun v69 wc => ∃ (kq : Nat) (x69_24 : Bool), v69 = .bool x69_24 ∧ Aside0 (impl_visitLeaves.j4 kq a0 l1 (wrap64 (x7_2 - t346)) x11_20 l1 (l1.length : Int) x29_2 x69_24 = some (r1, r2, r3)) ∧ Aside0 (kq ≤ kj20) ∧ Aside0 (wc.heap[gb345]? = some (.cells #[.int .i64 ((rd_T43 l1 x29_2).f0), .int .i64 ((rd_T43 l1 x29_2).f1)] 43 (0, 0))) ∧ Aside0 (Below w.heap.size w wc))
             case first =>
              have H := HC25.out; clear HC25
              by_cases c26 : x10_14 = true
              ·
               subst c26; have H1 : (impl_visitLeaves.j4 kj20 a0 l1 (wrap64 (x7_2 - t346)) x11_20 l1 (l1.length : Int) x29_2 (decide (x29_2 < (wrap64 ((l1.length : Int) - 1))))) = some (r1, r2, r3) := by rw [if_pos rfl] at H; exact H
               clear H; have H := H1; clear H1; have H' := a_ H; clear H
               go_wp2
               go_meet
               case rel => exact ⟨_, (decide (x29_2 < (wrap64 ((l1.length : Int) - 1)))), t2_, H', ⟨t53_⟩, ⟨B_ BK345.out⟩, ⟨L_ HB.out GE345.out GE345.out GE345.out⟩⟩
              ·
               replace c26 := Bool.eq_false_iff.mpr c26; subst c26; have H1 : (if x11_20 = true then (impl_visitLeaves.j4 kj20 a0 l1 (wrap64 (x7_2 - t346)) x11_20 l1 (l1.length : Int) x29_2 (decide (x29_2 < (wrap64 ((l1.length : Int) - 1))))) else (impl_visitLeaves.j4 kj20 a0 l1 (wrap64 (x7_2 - t346)) x11_20 l1 (l1.length : Int) x29_2 false)) = some (r1, r2, r3) := by rw [if_neg (show ¬ (false = true) by decide)] at H; exact H
               clear H; have H := H1; clear H1
               by_cases c27 : x11_20 = true
               ·
                subst c27; have H1 : (impl_visitLeaves.j4 kj20 a0 l1 (wrap64 (x7_2 - t346)) true l1 (l1.length : Int) x29_2 (decide (x29_2 < (wrap64 ((l1.length : Int) - 1))))) = some (r1, r2, r3) := by rw [if_pos rfl] at H; exact H
                clear H; have H := H1; clear H1; have H' := a_ H; clear H
                go_wp2
                go_meet
                case rel => exact ⟨_, (decide (x29_2 < (wrap64 ((l1.length : Int) - 1)))), t2_, H', ⟨t53_⟩, ⟨B_ BK345.out⟩, ⟨L_ HB.out GE345.out GE345.out GE345.out⟩⟩
               ·
                replace c27 := Bool.eq_false_iff.mpr c27; subst c27; have H1 : (impl_visitLeaves.j4 kj20 a0 l1 (wrap64 (x7_2 - t346)) false l1 (l1.length : Int) x29_2 false) = some (r1, r2, r3) := by rw [if_neg (show ¬ (false = true) by decide)] at H; exact H
                clear H; have H := H1; clear H1; have H' := a_ H; clear H
                go_wp2
                go_meet
                case rel => exact ⟨_, (false), t2_, H', ⟨t53_⟩, ⟨B_ BK345.out⟩, ⟨L_ HB.out GE345.out GE345.out GE345.out⟩⟩
             case rest =>
              clear HC25; obtain ⟨kq, x69_24, rfl, HA, HJ24, BK345, HB⟩ := hcut
              cases kq with
              | zero => exact absurd HA.out (by simp [impl_visitLeaves.j4])
              | succ kj24 =>
               have H := HA.out; clear HA; simp only [impl_visitLeaves.j4] at H
               by_cases c28 : x69_24 = true
               ·
                subst c28; have H1 : (some (0, false, false)) = some (r1, r2, r3) := by rw [if_pos rfl] at H; exact H
                clear H; have H := H1; clear H1; simp only [Option.some.injEq, Prod.mk.injEq] at H; obtain ⟨rfl, rfl, rfl⟩ := H
                go_wp2
                go_ret3
                exact ⟨by first | rfl | (simp [errW_none, errW_some] <;> rfl) | (simp [*, errW_none, errW_some] <;> rfl), by repeat (first | (with_reducible first | exact HB.out | apply below_alloc | apply pw_below_drewN | apply below_drew1 | refine below_set ?_ GE345.out) | exact HB.out)⟩
               ·
                replace c28 := Bool.eq_false_iff.mpr c28; subst c28; have H1 : (if x11_20 = true then (some (a0, true, true)) else (impl_visitLeaves.l0 kj24 a0 l1 (wrap64 (x7_2 - t346)) l1 (l1.length : Int) (wrap64 (x29_2 + 1)))) = some (r1, r2, r3) := by rw [if_neg (show ¬ (false = true) by decide)] at H; exact H
                clear H; have H := H1; clear H1
                by_cases c29 : x11_20 = true
                ·
                 subst c29; have H1 : (some (a0, true, true)) = some (r1, r2, r3) := by rw [if_pos rfl] at H; exact H
                 clear H; have H := H1; clear H1; simp only [Option.some.injEq, Prod.mk.injEq] at H; obtain ⟨rfl, rfl, rfl⟩ := H
                 go_wp2
                 go_ret3
                 exact ⟨by first | rfl | (simp [errW_none, errW_some] <;> rfl) | (simp [*, errW_none, errW_some] <;> rfl), by repeat (first | (with_reducible first | exact HB.out | apply below_alloc | apply pw_below_drewN | apply below_drew1 | refine below_set ?_ GE345.out) | exact HB.out)⟩
                ·
                 replace c29 := Bool.eq_false_iff.mpr c29; subst c29; have H1 : (impl_visitLeaves.l0 kj24 a0 l1 (wrap64 (x7_2 - t346)) l1 (l1.length : Int) (wrap64 (x29_2 + 1))) = some (r1, r2, r3) := by rw [if_neg (show ¬ (false = true) by decide)] at H; exact H
                 clear H; have H := H1; clear H1; have H' := a_ H; clear H
                 go_wp2
                 go_roundg kj24
                 case measure => have := HJ2.out; have := HK2.out; have := HJ14.out; have := HJ20.out; have := HJ24.out; omega
                 case rel => exact ⟨((wrap64 (x7_2 - t346))), (wrap64 (x29_2 + 1)), t2_, t2_, H', ⟨by have := HJ2.out; have := HK2.out; have := HJ14.out; have := HJ20.out; have := HJ24.out; omega⟩, ⟨L_ HB.out GE345.out GE345.out GE345.out⟩⟩
        ·
         rw [if_neg c13] at H
         exact absurd H t31_
       ·
        rw [if_neg c12] at H
        exact absurd H t31_
      ·
       rw [if_neg c11] at H; have c11b0 : decide (x29_2 < (l1.length : Int)) = false := decide_eq_false c11; clear c11; simp only [Option.some.injEq, Prod.mk.injEq] at H; obtain ⟨rfl, rfl, rfl⟩ := H
       go_wp2
       go_ret3
       exact ⟨by first | rfl | (simp [errW_none, errW_some] <;> rfl) | (simp [*, errW_none, errW_some] <;> rfl), by repeat (first | (with_reducible first | exact HB.out | apply below_alloc | apply pw_below_drewN | apply below_drew1) | exact HB.out)⟩
def impl_LeftAfter.f (k : Nat) (a0 : Int) (l1 : List (S43)) : Option (Int × Bool) := (impl_visitLeaves.f k a0 l1).bind fun bt347 => (some (bt347.1, bt347.2.2))
set_option maxHeartbeats 8000000 in
set_option maxRecDepth 100000 in
theorem impl_LeftAfter.calls (k : Nat) (a0 : Int) (A1 : Option Addr) (c1 : Nat) (l1 : List (S43)) (r1 : Int) (r2 : Bool) (w : World) (hr1 : Kd.C k43 w A1 l1.length l1) (hc1 : l1.length ≤ c1) (h : impl_LeftAfter.f k a0 l1 = some (r1, r2)) :
  Calls Try.prog 24 #[.int .i64 a0, .slice A1 l1.length c1] w fun e w' => e = .returned (.tuple #[.int .i64 r1, .bool r2]) ∧ Below w.heap.size w w' := by
 have HR1 := a_ hr1; have HC1 := a_ hc1; clear hr1 hc1; have HB := a_ (Below.refl w.heap.size w); have H : ((impl_visitLeaves.f k a0 l1).bind fun bt347 => (some (bt347.1, bt347.2.2))) = some (r1, r2) := h; clear h; replace H := Option.bind_eq_some_iff.mp H; obtain ⟨⟨t347, t348, t349⟩, A30, H⟩ := H; replace H : (some (t347, t349)) = some (r1, r2) := H; have A3 := a_ A30; clear A30; simp only [Option.some.injEq, Prod.mk.injEq] at H; obtain ⟨rfl, rfl⟩ := H
 go_enter Try.func24, Try.ntmps24
 go_wp2_with (first | ((with_reducible refine gate_callee (f := 48) rfl ?_); refine goesL_ (some 12) rfl rfl Try.func48 t1_ rfl #[.int .i64 a0, .slice A1 l1.length c1] rfl (by (try simp only [m1_, m2_, m3_]); first | done | rfl) ?_; (with_reducible refine (impl_visitLeaves.calls k a0 _ _ l1 t347 t348 t349 _ ?side1 ?side2 A3.out).mono ?_); (case side1 => repeat (first | exact HR1.out | (with_reducible refine Kd.C_alloc ?_ _) | (with_reducible refine Kd.C_drewN ?_ _) | (with_reducible refine Kd.C_drew ?_))); (case side2 => exact HC1.out); rintro e w4 ⟨rfl, hb⟩; refine ⟨_, rfl, ?_⟩; have n0_ := a_ (below_step (L_ HB.out (Nat.le_refl _) (Nat.le_refl _) (Nat.le_refl _)) hb); clear HB; have HB := n0_; clear n0_; (try clear hb); (try clear hb2); (try clear hk); (try clear hi)))
 go_ret2
 exact ⟨by first | rfl | (simp [errW_none, errW_some] <;> rfl) | (simp [*, errW_none, errW_some] <;> rfl), by repeat (first | (with_reducible first | exact HB.out | apply below_alloc | apply pw_below_drewN | apply below_drew1) | exact HB.out)⟩
def impl_IsBust.f (k : Nat) (a0 : Int) (l1 : List (S43)) : Option (Bool × Bool) := (impl_visitLeaves.f k a0 l1).bind fun bt350 => (some (bt350.2.1, bt350.2.2))
set_option maxHeartbeats 8000000 in
set_option maxRecDepth 100000 in
theorem impl_IsBust.calls (k : Nat) (a0 : Int) (A1 : Option Addr) (c1 : Nat) (l1 : List (S43)) (r1 : Bool) (r2 : Bool) (w : World) (hr1 : Kd.C k43 w A1 l1.length l1) (hc1 : l1.length ≤ c1) (h : impl_IsBust.f k a0 l1 = some (r1, r2)) :
  Calls Try.prog 25 #[.int .i64 a0, .slice A1 l1.length c1] w fun e w' => e = .returned (.tuple #[.bool r1, .bool r2]) ∧ Below w.heap.size w w' := by
 have HR1 := a_ hr1; have HC1 := a_ hc1; clear hr1 hc1; have HB := a_ (Below.refl w.heap.size w); have H : ((impl_visitLeaves.f k a0 l1).bind fun bt350 => (some (bt350.2.1, bt350.2.2))) = some (r1, r2) := h; clear h; replace H := Option.bind_eq_some_iff.mp H; obtain ⟨⟨t350, t351, t352⟩, A30, H⟩ := H; replace H : (some (t351, t352)) = some (r1, r2) := H; have A3 := a_ A30; clear A30; simp only [Option.some.injEq, Prod.mk.injEq] at H; obtain ⟨rfl, rfl⟩ := H
 go_enter Try.func25, Try.ntmps25
 go_wp2_with (first | ((with_reducible refine gate_callee (f := 48) rfl ?_); refine goesL_ (some 12) rfl rfl Try.func48 t1_ rfl #[.int .i64 a0, .slice A1 l1.length c1] rfl (by (try simp only [m1_, m2_, m3_]); first | done | rfl) ?_; (with_reducible refine (impl_visitLeaves.calls k a0 _ _ l1 t350 t351 t352 _ ?side1 ?side2 A3.out).mono ?_); (case side1 => repeat (first | exact HR1.out | (with_reducible refine Kd.C_alloc ?_ _) | (with_reducible refine Kd.C_drewN ?_ _) | (with_reducible refine Kd.C_drew ?_))); (case side2 => exact HC1.out); rintro e w4 ⟨rfl, hb⟩; refine ⟨_, rfl, ?_⟩; have n0_ := a_ (below_step (L_ HB.out (Nat.le_refl _) (Nat.le_refl _) (Nat.le_refl _)) hb); clear HB; have HB := n0_; clear n0_; (try clear hb); (try clear hb2); (try clear hk); (try clear hi)))
 go_ret2
 exact ⟨by first | rfl | (simp [errW_none, errW_some] <;> rfl) | (simp [*, errW_none, errW_some] <;> rfl), by repeat (first | (with_reducible first | exact HB.out | apply below_alloc | apply pw_below_drewN | apply below_drew1) | exact HB.out)⟩
def spec_DrawFewestDarts.f (l0 : List Int) : Option (Int) := (mkCur.f l0).bind fun bt353 => ((spec_l1Cur_left.f bt353.1 bt353.2.1 bt353.2.2).bind fun bt357 => (some bt357.1))
set_option maxHeartbeats 8000000 in
set_option maxRecDepth 100000 in
theorem spec_DrawFewestDarts.calls (A0 : Option Addr) (c0 : Nat) (l0 : List Int) (r : Int) (w : World) (hr0 : Kd.C (Kd.int .u8) w A0 l0.length l0) (hc0 : l0.length ≤ c0) (h : spec_DrawFewestDarts.f l0 = some r) :
  Calls Try.prog 26 #[.slice A0 l0.length c0] w fun e w' => e = .returned (.int .i64 r) ∧ Below w.heap.size w w' := by
 have HR0 := a_ hr0; have HC0 := a_ hc0; clear hr0 hc0; have HB := a_ (Below.refl w.heap.size w); have H : ((mkCur.f l0).bind fun bt353 => ((spec_l1Cur_left.f bt353.1 bt353.2.1 bt353.2.2).bind fun bt357 => (some bt357.1))) = some r := h; clear h; replace H := Option.bind_eq_some_iff.mp H; obtain ⟨⟨t353, t354, t355⟩, A20, H⟩ := H; replace H : ((spec_l1Cur_left.f t353 t354 t355).bind fun bt357 => (some bt357.1)) = some r := H; have A2 := a_ A20; clear A20; replace H := Option.bind_eq_some_iff.mp H; obtain ⟨⟨t357, t358, t359⟩, A30, H⟩ := H; replace H : (some t357) = some r := H; have A3 := a_ A30; clear A30; obtain rfl := Option.some.inj H
 go_enter Try.func26, Try.ntmps26
 go_wp2_with (first | ((with_reducible refine gate_dst (N := 6) rfl ?_); refine box_event ?hg (N := 6) ?hd (cs := #[.slice A0 l0.length c0, .int .i64 0, .int .u64 0]) (t := 65) ?hr ?_; (case hd => rfl); (case hg => rfl); (case hr => first | (go_simp; done) | (go_simp; rfl)); intro g356 hg w4 hbox hb2; have hge_ : w.heap.size ≤ g356 := t59_; have hb := below_step (L_ HB.out (Nat.le_refl _) (Nat.le_refl _) (Nat.le_refl _)) hb2; have hi : IsS65 w w4 g356 t353 t354 t355 := t43_; clear hge_ hg hbox; have n0_ := a_ (hb); have n1_ := a_ (hi); clear HB; have HB := n0_; have HI356 := n1_; clear n0_ n1_; (try clear hb); (try clear hb2); (try clear hk); (try clear hi)) | ((with_reducible refine gate_callee (f := 49) rfl ?_); refine goesL_ (some 8) rfl rfl Try.func49 t1_ rfl #[.pointer (some ⟨g356, 0, none⟩)] rfl (by (try simp only [m1_, m2_, m3_]); first | done | rfl) ?_; (with_reducible refine (spec_l1Cur_left.calls g356 t353 t354 t355 t357 t358 t359 w _ ?side1 ?side2 A3.out).mono ?_); (case side1 => repeat (first | (with_reducible first | exact HI356.out | apply IsS65.alloc | apply IsS65.drewN | apply IsS65.drew | apply IsS65.set_1 | apply IsS65.set_2) | exact HI356.out)); (case side2 => repeat (first | (with_reducible first | exact HB.out | apply below_alloc | apply pw_below_drewN | apply below_drew1 | refine below_set ?_ (IsS65.ge HI356.out)) | exact HB.out)); rintro e w5 ⟨rfl, hi, hb, hk⟩; refine ⟨_, rfl, ?_⟩; have n0_ := a_ (hb); have n1_ := a_ (hi); clear HB; clear HI356; have HB := n0_; have HI356 := n1_; clear n0_ n1_; (try clear hb); (try clear hb2); (try clear hk); (try clear hi)))
 go_ret
 exact ⟨by first | rfl | (simp [errW_none, errW_some] <;> rfl) | (simp [*, errW_none, errW_some] <;> rfl), by repeat (first | (with_reducible first | exact HB.out | apply below_alloc | apply pw_below_drewN | apply below_drew1 | refine below_set ?_ (IsS65.ge HI356.out)) | exact HB.out)⟩
def spec_FewestDarts.l0 : Nat → Int → Int → Option (Int × Bool)
 | 0, _, _ => none
 | k + 1, x0, x4 => (spec_daFinishes.f k x0 x4).bind fun t361 => (if t361 = 0 then (spec_FewestDarts.l0 k x0 (wrap64 (x4 + 1))) else (some (x4, true)))
def spec_FewestDarts.f (k : Nat) (a0 : Int) : Option (Int × Bool) := (spec_l1In.f a0 2 1001).bind fun t360 => (if t360 = true then (spec_FewestDarts.l0 k a0 (wrap64 (Int.tdiv (wrap64 (a0 + 59)) 60))) else (some (0, false)))
set_option maxHeartbeats 8000000 in
set_option maxRecDepth 100000 in
theorem spec_FewestDarts.calls (k : Nat) (a0 : Int) (r1 : Int) (r2 : Bool) (w : World) (h : spec_FewestDarts.f k a0 = some (r1, r2)) :
  Calls Try.prog 27 #[.int .i64 a0] w fun e w' => e = .returned (.tuple #[.int .i64 r1, .bool r2]) ∧ Below w.heap.size w w' := by
 have HB := a_ (Below.refl w.heap.size w); have H : ((spec_l1In.f a0 2 1001).bind fun t360 => (if t360 = true then (spec_FewestDarts.l0 k a0 (wrap64 (Int.tdiv (wrap64 (a0 + 59)) 60))) else (some (0, false)))) = some (r1, r2) := h; clear h; replace H := Option.bind_eq_some_iff.mp H; obtain ⟨t360, A20, H⟩ := H; replace H : (if t360 = true then (spec_FewestDarts.l0 k a0 (wrap64 (Int.tdiv (wrap64 (a0 + 59)) 60))) else (some (0, false))) = some (r1, r2) := H; have A2 := a_ A20; clear A20
 by_cases c3 : t360 = true
 ·
  subst c3; have H1 : (spec_FewestDarts.l0 k a0 (wrap64 (Int.tdiv (wrap64 (a0 + 59)) 60))) = some (r1, r2) := by rw [if_pos rfl] at H; exact H
  clear H; have H := H1; clear H1; have H' := a_ H; clear H
  go_enter Try.func27, Try.ntmps27
  go_wp2_with (first | ((with_reducible refine gate_callee (f := 50) rfl ?_); refine goesL_ (some 6) rfl rfl Try.func50 t1_ rfl #[.int .i64 a0, .int .i64 2, .int .i64 1001] rfl (by (try simp only [m1_, m2_, m3_]); first | done | rfl) ?_; (with_reducible refine (spec_l1In.calls a0 2 1001 true _ A2.out).mono ?_); rintro e w' ⟨rfl, ⟨nd, rfl⟩⟩; refine ⟨_, rfl, ?_⟩))
  go_loopg [4] k (fun kq v4 w' => ∃ (x4_1 : Int), v4 = .int .i64 x4_1 ∧ Aside0 (spec_FewestDarts.l0 kq a0 x4_1 = some (r1, r2)) ∧ Aside0 (kq ≤ k) ∧ Aside0 (Below w.heap.size w w'))
  case atStart => exact ⟨(wrap64 (Int.tdiv (wrap64 (a0 + 59)) 60)), t2_, H', ⟨Nat.le_refl _⟩, ⟨L_ HB.out (Nat.le_refl _) (Nat.le_refl _) (Nat.le_refl _)⟩⟩
  case round =>
   clear H'; obtain ⟨x4_1, rfl, HA, HK1, HB⟩ := hrel
   cases gk with
   | zero => exact absurd HA.out (by simp [spec_FewestDarts.l0])
   | succ k1 =>
    have H := HA.out; clear HA; simp only [spec_FewestDarts.l0] at H; replace H := Option.bind_eq_some_iff.mp H; obtain ⟨t361, A40, H⟩ := H; replace H : (if t361 = 0 then (spec_FewestDarts.l0 k1 a0 (wrap64 (x4_1 + 1))) else (some (x4_1, true))) = some (r1, r2) := H; have A4 := a_ A40; clear A40
    by_cases c5 : t361 = 0
    ·
     rw [if_pos c5] at H; have c5b0 : (t361 == 0) = true := beq_iff_eq.mpr c5; have c5b1 : (t361 != 0) = false := bne_eq_false_iff_eq.mpr c5; clear c5; have H' := a_ H; clear H
     go_wp2_with (first | ((with_reducible refine gate_callee (f := 39) rfl ?_); refine goesL_ (some 13) rfl rfl Try.func39 t1_ rfl #[.int .i64 a0, .int .i64 x4_1] rfl (by (try simp only [m1_, m2_, m3_]); first | done | rfl) ?_; (with_reducible refine (spec_daFinishes.calls k1 a0 x4_1 t361 _ A4.out).mono ?_); rintro e w6 ⟨rfl, hb⟩; refine ⟨_, rfl, ?_⟩; have n0_ := a_ (below_step (L_ HB.out (Nat.le_refl _) (Nat.le_refl _) (Nat.le_refl _)) hb); clear HB; have HB := n0_; clear n0_; (try clear hb); (try clear hb2); (try clear hk); (try clear hi)))
     go_roundg k1
     case measure => have := HK1.out; omega
     case rel => exact ⟨(wrap64 (x4_1 + 1)), t2_, H', ⟨t52_⟩, ⟨L_ HB.out (Nat.le_refl _) (Nat.le_refl _) (Nat.le_refl _)⟩⟩
    ·
     rw [if_neg c5] at H; have c5b0 : (t361 == 0) = false := beq_eq_false_iff_ne.mpr c5; have c5b1 : (t361 != 0) = true := bne_iff_ne.mpr c5; simp only [Option.some.injEq, Prod.mk.injEq] at H; obtain ⟨rfl, rfl⟩ := H
     go_wp2_with (first | ((with_reducible refine gate_callee (f := 39) rfl ?_); refine goesL_ (some 13) rfl rfl Try.func39 t1_ rfl #[.int .i64 a0, .int .i64 x4_1] rfl (by (try simp only [m1_, m2_, m3_]); first | done | rfl) ?_; (with_reducible refine (spec_daFinishes.calls k1 a0 x4_1 t361 _ A4.out).mono ?_); rintro e w7 ⟨rfl, hb⟩; refine ⟨_, rfl, ?_⟩; have n0_ := a_ (below_step (L_ HB.out (Nat.le_refl _) (Nat.le_refl _) (Nat.le_refl _)) hb); clear HB; have HB := n0_; clear n0_; (try clear hb); (try clear hb2); (try clear hk); (try clear hi)))
     go_ret2
     exact ⟨by first | rfl | (simp [errW_none, errW_some] <;> rfl) | (simp [*, errW_none, errW_some] <;> rfl), by repeat (first | (with_reducible first | exact HB.out | apply below_alloc | apply pw_below_drewN | apply below_drew1) | exact HB.out)⟩
 ·
  replace c3 := Bool.eq_false_iff.mpr c3; subst c3; have H1 : (some (0, false)) = some (r1, r2) := by rw [if_neg (show ¬ (false = true) by decide)] at H; exact H
  clear H; have H := H1; clear H1; simp only [Option.some.injEq, Prod.mk.injEq] at H; obtain ⟨rfl, rfl⟩ := H
  go_enter Try.func27, Try.ntmps27
  go_wp2_with (first | ((with_reducible refine gate_callee (f := 50) rfl ?_); refine goesL_ (some 6) rfl rfl Try.func50 t1_ rfl #[.int .i64 a0, .int .i64 2, .int .i64 1001] rfl (by (try simp only [m1_, m2_, m3_]); first | done | rfl) ?_; (with_reducible refine (spec_l1In.calls a0 2 1001 false _ A2.out).mono ?_); rintro e w' ⟨rfl, ⟨nd, rfl⟩⟩; refine ⟨_, rfl, ?_⟩))
  go_ret2
  exact ⟨by first | rfl | (simp [errW_none, errW_some] <;> rfl) | (simp [*, errW_none, errW_some] <;> rfl), by repeat (first | (with_reducible first | exact HB.out | apply below_alloc | apply pw_below_drewN | apply below_drew1) | exact HB.out)⟩
def spec_DrawCountScores.f (l0 : List Int) : Option (Int) := (mkCur.f l0).bind fun bt362 => ((spec_l1Cur_few.f bt362.1 bt362.2.1 bt362.2.2).bind fun bt366 => (some bt366.1))
set_option maxHeartbeats 8000000 in
set_option maxRecDepth 100000 in
theorem spec_DrawCountScores.calls (A0 : Option Addr) (c0 : Nat) (l0 : List Int) (r : Int) (w : World) (hr0 : Kd.C (Kd.int .u8) w A0 l0.length l0) (hc0 : l0.length ≤ c0) (h : spec_DrawCountScores.f l0 = some r) :
  Calls Try.prog 51 #[.slice A0 l0.length c0] w fun e w' => e = .returned (.int .i64 r) ∧ Below w.heap.size w w' := by
 have HR0 := a_ hr0; have HC0 := a_ hc0; clear hr0 hc0; have HB := a_ (Below.refl w.heap.size w); have H : ((mkCur.f l0).bind fun bt362 => ((spec_l1Cur_few.f bt362.1 bt362.2.1 bt362.2.2).bind fun bt366 => (some bt366.1))) = some r := h; clear h; replace H := Option.bind_eq_some_iff.mp H; obtain ⟨⟨t362, t363, t364⟩, A20, H⟩ := H; replace H : ((spec_l1Cur_few.f t362 t363 t364).bind fun bt366 => (some bt366.1)) = some r := H; have A2 := a_ A20; clear A20; replace H := Option.bind_eq_some_iff.mp H; obtain ⟨⟨t366, t367, t368⟩, A30, H⟩ := H; replace H : (some t366) = some r := H; have A3 := a_ A30; clear A30; obtain rfl := Option.some.inj H
 go_enter Try.func51, Try.ntmps51
 go_wp2_with (first | ((with_reducible refine gate_dst (N := 6) rfl ?_); refine box_event ?hg (N := 6) ?hd (cs := #[.slice A0 l0.length c0, .int .i64 0, .int .u64 0]) (t := 65) ?hr ?_; (case hd => rfl); (case hg => rfl); (case hr => first | (go_simp; done) | (go_simp; rfl)); intro g365 hg w4 hbox hb2; have hge_ : w.heap.size ≤ g365 := t59_; have hb := below_step (L_ HB.out (Nat.le_refl _) (Nat.le_refl _) (Nat.le_refl _)) hb2; have hi : IsS65 w w4 g365 t362 t363 t364 := t43_; clear hge_ hg hbox; have n0_ := a_ (hb); have n1_ := a_ (hi); clear HB; have HB := n0_; have HI365 := n1_; clear n0_ n1_; (try clear hb); (try clear hb2); (try clear hk); (try clear hi)) | ((with_reducible refine gate_callee (f := 52) rfl ?_); refine goesL_ (some 8) rfl rfl Try.func52 t1_ rfl #[.pointer (some ⟨g365, 0, none⟩)] rfl (by (try simp only [m1_, m2_, m3_]); first | done | rfl) ?_; (with_reducible refine (spec_l1Cur_few.calls g365 t362 t363 t364 t366 t367 t368 w _ ?side1 ?side2 A3.out).mono ?_); (case side1 => repeat (first | (with_reducible first | exact HI365.out | apply IsS65.alloc | apply IsS65.drewN | apply IsS65.drew | apply IsS65.set_1 | apply IsS65.set_2) | exact HI365.out)); (case side2 => repeat (first | (with_reducible first | exact HB.out | apply below_alloc | apply pw_below_drewN | apply below_drew1 | refine below_set ?_ (IsS65.ge HI365.out)) | exact HB.out)); rintro e w5 ⟨rfl, hi, hb, hk⟩; refine ⟨_, rfl, ?_⟩; have n0_ := a_ (hb); have n1_ := a_ (hi); clear HB; clear HI365; have HB := n0_; have HI365 := n1_; clear n0_ n1_; (try clear hb); (try clear hb2); (try clear hk); (try clear hi)))
 go_ret
 exact ⟨by first | rfl | (simp [errW_none, errW_some] <;> rfl) | (simp [*, errW_none, errW_some] <;> rfl), by repeat (first | (with_reducible first | exact HB.out | apply below_alloc | apply pw_below_drewN | apply below_drew1 | refine below_set ?_ (IsS65.ge HI365.out)) | exact HB.out)⟩
def spec_DrawHighestFinish.f (l0 : List Int) : Option (Int) := (spec_DrawCountScores.f l0).bind fun t369 => (some t369)
set_option maxHeartbeats 8000000 in
set_option maxRecDepth 100000 in
theorem spec_DrawHighestFinish.calls (A0 : Option Addr) (c0 : Nat) (l0 : List Int) (r : Int) (w : World) (hr0 : Kd.C (Kd.int .u8) w A0 l0.length l0) (hc0 : l0.length ≤ c0) (h : spec_DrawHighestFinish.f l0 = some r) :
  Calls Try.prog 28 #[.slice A0 l0.length c0] w fun e w' => e = .returned (.int .i64 r) ∧ Below w.heap.size w w' := by
 have HR0 := a_ hr0; have HC0 := a_ hc0; clear hr0 hc0; have HB := a_ (Below.refl w.heap.size w); have H : ((spec_DrawCountScores.f l0).bind fun t369 => (some t369)) = some r := h; clear h; replace H := Option.bind_eq_some_iff.mp H; obtain ⟨t369, A20, H⟩ := H; replace H : (some t369) = some r := H; have A2 := a_ A20; clear A20; obtain rfl := Option.some.inj H
 go_enter Try.func28, Try.ntmps28
 go_wp2_with (first | ((with_reducible refine gate_callee (f := 51) rfl ?_); refine goesL_ (some 4) rfl rfl Try.func51 t1_ rfl #[.slice A0 l0.length c0] rfl (by (try simp only [m1_, m2_, m3_]); first | done | rfl) ?_; (with_reducible refine (spec_DrawCountScores.calls _ _ l0 t369 _ ?side1 ?side2 A2.out).mono ?_); (case side1 => repeat (first | exact HR0.out | (with_reducible refine Kd.C_alloc ?_ _) | (with_reducible refine Kd.C_drewN ?_ _) | (with_reducible refine Kd.C_drew ?_))); (case side2 => exact HC0.out); rintro e w3 ⟨rfl, hb⟩; refine ⟨_, rfl, ?_⟩; have n0_ := a_ (below_step (L_ HB.out (Nat.le_refl _) (Nat.le_refl _) (Nat.le_refl _)) hb); clear HB; have HB := n0_; clear n0_; (try clear hb); (try clear hb2); (try clear hk); (try clear hi)))
 go_ret
 exact ⟨by first | rfl | (simp [errW_none, errW_some] <;> rfl) | (simp [*, errW_none, errW_some] <;> rfl), by repeat (first | (with_reducible first | exact HB.out | apply below_alloc | apply pw_below_drewN | apply below_drew1) | exact HB.out)⟩
end Go.Proofs.Ytacmfgbeaoalfaa.QFnDartsFinish
