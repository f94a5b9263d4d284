/- Functions of this law, printed out of the translation: what each computes, and that its code answers so. No condition. -/
import Derived.Test.YtacmfgbeaoalfaacQFnDartsFinishx0
import Derived.Test.YtacmfgbeaoalfaacQFnDartsFinishx3
import Derived.Test.YtacmfgbeaoalfaacGQ
namespace Go.Proofs.Ytacmfgbeaoalfaa.QFnDartsFinish
open Go.RowKit Go.Proofs.YtacmfgbeaoalfaaW.PrintWords Go.Proofs.YtacmfgbeaoalfaaW.PrintLast Go.Proofs.YtacmfgbeaoalfaaW.PrintMore Go.Proofs.Ytacmfgbeaoalfaa.Sh
attribute [local go_sem] max2_int min2_int max_two min_two max_three min_three max_four min_four
set_option linter.unusedVariables false
set_option linter.unusedSimpArgs false
mutual
def spec_daAll.l0 : Nat → List (S43) → Int → Option ((List (S43)))
 | 0, _, _ => none
 | k + 1, x1, x2 => if x2 > 0 then (spec_daAll.l1 k x1 x2 3) else (some x1)
def spec_daAll.l1 : Nat → List (S43) → Int → Int → Option ((List (S43)))
 | 0, _, _, _ => none
 | k + 1, x1, x2, x3 => if x3 > 0 then (if x3 = 0 then (none) else (if (Int.tmod x2 x3) = 0 then ((spec_daGood.f (wrap64 (Int.tdiv x2 x3)) x3).bind fun t199 => (if t199 = true then (if x1.length < 8796093022208 then (spec_daAll.l1 k (x1 ++ [(⟨wrap64 (Int.tdiv x2 x3), x3⟩ : S43)]) x2 (wrap64 (x3 - 1))) else (none)) else (spec_daAll.l1 k x1 x2 (wrap64 (x3 - 1))))) else (spec_daAll.l1 k x1 x2 (wrap64 (x3 - 1))))) else (spec_daAll.l0 k x1 (wrap64 (x2 - 1)))
end
def spec_daAll.f (k : Nat)  : Option ((List (S43))) := spec_daAll.l0 k ([] : List (S43)) 60
theorem spec_daAll.mono_l : ∀ k, (∀ y0 y1, LeO (spec_daAll.l0 k y0 y1) (spec_daAll.l0 (k + 1) y0 y1)) ∧ (∀ y0 y1 y2, LeO (spec_daAll.l1 k y0 y1 y2) (spec_daAll.l1 (k + 1) y0 y1 y2))
 | 0 => ⟨fun _ _ r h => by simp [spec_daAll.l0] at h, fun _ _ _ r h => by simp [spec_daAll.l1] at h⟩
 | k + 1 => by
  obtain ⟨ih0, ih1⟩ := spec_daAll.mono_l k
  refine ⟨?_, ?_⟩
  ·
   intro y0 y1
   unfold spec_daAll.l0
   repeat' first
   | (with_reducible exact ih0 _ _)
   | (with_reducible exact ih1 _ _ _)
   | (with_reducible exact LeO.refl _)
   | (with_reducible exact LeO.none _)
   | (with_reducible refine LeO.ite ?_ ?_)
   | (with_reducible refine LeO.bind ?_ (fun _ => ?_))
   | exact ih0 _ _
   | exact ih1 _ _ _
   | exact LeO.none _
   | refine LeO.ite ?_ ?_
   | refine LeO.bind ?_ (fun _ => ?_)
  ·
   intro y0 y1 y2
   unfold spec_daAll.l1
   repeat' first
   | (with_reducible exact ih0 _ _)
   | (with_reducible exact ih1 _ _ _)
   | (with_reducible exact LeO.refl _)
   | (with_reducible exact LeO.none _)
   | (with_reducible refine LeO.ite ?_ ?_)
   | (with_reducible refine LeO.bind ?_ (fun _ => ?_))
   | exact ih0 _ _
   | exact ih1 _ _ _
   | exact LeO.none _
   | refine LeO.ite ?_ ?_
   | refine LeO.bind ?_ (fun _ => ?_)
theorem spec_daAll.mono : ∀ k, LeO (spec_daAll.f k ) (spec_daAll.f (k + 1) ) := by
 intro  k
 obtain ⟨ih0, ih1⟩ := spec_daAll.mono_l k
 unfold spec_daAll.f
 repeat' first
   | (with_reducible exact ih0 _ _)
   | (with_reducible exact ih1 _ _ _)
   | (with_reducible exact LeO.refl _)
   | (with_reducible exact LeO.none _)
   | (with_reducible refine LeO.ite ?_ ?_)
   | (with_reducible refine LeO.bind ?_ (fun _ => ?_))
   | exact ih0 _ _
   | exact ih1 _ _ _
   | exact LeO.none _
   | refine LeO.ite ?_ ?_
   | refine LeO.bind ?_ (fun _ => ?_)
set_option maxHeartbeats 8000000 in
set_option maxRecDepth 100000 in
theorem spec_daAll.calls (k : Nat)  (r : List (S43)) (w : World) (h : spec_daAll.f k  = some r) :
  Calls Try.prog 55 #[] w fun e w' => ∃ v0_ : Value, e = .returned (v0_) ∧ Kd.R k43 43 w' w.heap.size (fun _ => True) v0_ r ∧ Below w.heap.size w w' := by
 have hu43 := Try.underlying43; have HB := a_ (Below.refl w.heap.size w); have H : (spec_daAll.l0 k ([] : List (S43)) 60) = some r := h; clear h; have H' := a_ H; clear H
 go_enter Try.func55, Try.ntmps55
 go_wp2
 go_loopg [1, 2] k (fun kq v1 v2 w' => ∃ (x1_1 : List (S43)) (x2_1 : Int), v2 = .int .i64 x2_1 ∧ Aside0 (spec_daAll.l0 kq x1_1 x2_1 = some r) ∧ Aside0 (kq ≤ k) ∧ Aside0 (Kd.R k43 43 w' w.heap.size (fun _ => True) v1 x1_1) ∧ Aside0 (Below w.heap.size w w'))
 case atStart => exact ⟨(([] : List (S43))), (60), t2_, H', ⟨Nat.le_refl _⟩, ⟨t56_⟩, ⟨L_ HB.out (Nat.le_refl _) (Nat.le_refl _) (Nat.le_refl _)⟩⟩
 case round =>
  clear H'; obtain ⟨x1_1, x2_1, rfl, HA, HK1, HO_1, HB⟩ := hrel
  cases gk with
  | zero => exact absurd HA.out (by simp [spec_daAll.l0])
  | succ k1 =>
   have H := HA.out; clear HA; simp only [spec_daAll.l0] at H
   by_cases c1 : x2_1 > 0
   ·
    rw [if_pos c1] at H; have c1b0 : decide (0 < x2_1) = true := decide_eq_true c1; clear c1; have H' := a_ H; clear H
    go_wp2
    go_loopg [1, 3] k1 (fun kq v1 v3 w' => ∃ (x1_2 : List (S43)) (x3_2 : Int), v3 = .int .i64 x3_2 ∧ Aside0 (spec_daAll.l1 kq x1_2 x2_1 x3_2 = some r) ∧ Aside0 (kq ≤ k1) ∧ Aside0 (Kd.R k43 43 w' w.heap.size (fun _ => True) v1 x1_2) ∧ Aside0 (Below w.heap.size w w'))
    case atStart => exact ⟨(x1_1), (3), t2_, H', ⟨Nat.le_refl _⟩, ⟨R_ HO_1.out⟩, ⟨L_ HB.out (Nat.le_refl _) (Nat.le_refl _) (Nat.le_refl _)⟩⟩
    case round =>
     clear H'; obtain ⟨x1_2, x3_2, rfl, HA, HK2, HO_1, HB⟩ := hrel
     cases gk with
     | zero => exact absurd HA.out (by simp [spec_daAll.l1])
     | succ k2 =>
      have H := HA.out; clear HA; simp only [spec_daAll.l1] at H
      by_cases c2 : x3_2 > 0
      ·
       rw [if_pos c2] at H; have c2b0 : decide (0 < x3_2) = true := decide_eq_true c2; clear c2
       by_cases c3 : x3_2 = 0
       ·
        rw [if_pos c3] at H
        exact absurd H t31_
       ·
        rw [if_neg c3] at H; have c3b0 : (x3_2 == 0) = false := beq_eq_false_iff_ne.mpr c3; have c3b1 : (x3_2 != 0) = true := bne_iff_ne.mpr c3
        by_cases c4 : (Int.tmod x2_1 x3_2) = 0
        ·
         rw [if_pos c4] at H; have c4b0 : ((Int.tmod x2_1 x3_2) == 0) = true := beq_iff_eq.mpr c4; have c4b1 : ((Int.tmod x2_1 x3_2) != 0) = false := bne_eq_false_iff_eq.mpr c4; clear c4; replace H := Option.bind_eq_some_iff.mp H; obtain ⟨t199, A50, H⟩ := H; replace H : (if t199 = true then (if x1_2.length < 8796093022208 then (spec_daAll.l1 k2 (x1_2 ++ [(⟨wrap64 (Int.tdiv x2_1 x3_2), x3_2⟩ : S43)]) x2_1 (wrap64 (x3_2 - 1))) else (none)) else (spec_daAll.l1 k2 x1_2 x2_1 (wrap64 (x3_2 - 1)))) = some r := H; have A5 := a_ A50; clear A50
         by_cases c6 : t199 = true
         ·
          subst c6; have H1 : (if x1_2.length < 8796093022208 then (spec_daAll.l1 k2 (x1_2 ++ [(⟨wrap64 (Int.tdiv x2_1 x3_2), x3_2⟩ : S43)]) x2_1 (wrap64 (x3_2 - 1))) else (none)) = some r := by rw [if_pos rfl] at H; exact H
          clear H; have H := H1; clear H1
          by_cases c7 : x1_2.length < 8796093022208
          ·
           rw [if_pos c7] at H; have LMc7 := a_ c7; clear c7; obtain ⟨y200, hy200⟩ : ∃ y_ : List (S43), y_ = (x1_2 ++ [(⟨wrap64 (Int.tdiv x2_1 x3_2), x3_2⟩ : S43)]) := ⟨_, rfl⟩; replace H : (spec_daAll.l1 k2 y200 x2_1 (wrap64 (x3_2 - 1))) = some r := by first | (rw [hy200]; with_reducible exact H) | (have H2_ := (Option.bind_some _ _).symm.trans H; rw [hy200]; with_reducible exact H2_) | (have H2_ := (Option.bind_some _ _).symm.trans H; with_reducible exact H2_) | with_reducible exact H | (rw [hy200]; exact H) | exact H
           have Ny200 := a_ hy200; clear hy200; have H' := a_ H; clear H
           go_wp2_with (first | ((with_reducible refine gate_dst (N := 4) rfl ?_); refine box_event ?hg (N := 4) ?hd (cs := #[.int .i64 0, .int .i64 0]) (t := 43) ?hr ?_; (case hd => rfl); (case hg => rfl); (case hr => first | (go_simp; done) | (go_simp; rfl)); intro gb198 hg w8 hbox hb; have n0_ := a_ (Kd.R_below (Kd.R_elderB (R_ HO_1.out) gb198 (Nat.le_of_eq hg.symm)) hb); have n1_ := a_ (below_step (L_ HB.out (Nat.le_refl _) (Nat.le_refl _) (Nat.le_refl _)) hb); have n2_ := a_ (hbox); have n3_ := a_ ((by rw [hg]; exact (below_size (L_ HB.out (Nat.le_refl _) (Nat.le_refl _) (Nat.le_refl _))) : w.heap.size ≤ gb198)); have n4_ := a_ ((by rw [hg]; exact (below_size (L_ HB.out (Nat.le_refl _) (Nat.le_refl _) (Nat.le_refl _))) : w.heap.size ≤ gb198)); clear HO_1; clear HB; have HO_1 := n0_; have HB := n1_; have BK198 := n2_; have GW198 := n3_; have GE198 := n4_; clear n0_ n1_ n2_ n3_ n4_; clear hb hbox hg; have hcz9_0 : w8.cell? ⟨gb198, 0, none⟩ = some (.int .i64 0) := c_ BK198.out 0; have hcz9_1 : w8.cell? ⟨gb198, 1, none⟩ = some (.int .i64 0) := c_ BK198.out 1; have hfz9_0 := blk_frozen BK198.out 0; have hfz9_1 := blk_frozen BK198.out 1) | (go_at_call 61; (with_reducible refine (spec_daGood.calls (wrap64 (Int.tdiv x2_1 x3_2)) x3_2 true _ A5.out).mono ?_); rintro e w10 ⟨rfl, hb⟩; have n0_ := a_ (Kd.R_below t35_ hb); have n1_ := a_ (blk_below (g := gb198) (o := .cells #[.int .i64 (wrap64 (Int.tdiv x2_1 x3_2)), .int .i64 x3_2] 43 (0, 0)) t33_ hb); have n2_ := a_ (below_step (L_ HB.out GE198.out GE198.out GE198.out) hb); clear HO_1; clear BK198; clear HB; have HO_1 := n0_; have BK198 := n1_; have HB := n2_; clear n0_ n1_ n2_; (try clear hb); (try clear hb2); (try clear hk); (try clear hi); have hcz11_0 : w10.cell? ⟨gb198, 0, none⟩ = some (.int .i64 (wrap64 (Int.tdiv x2_1 x3_2))) := c_ BK198.out 0; have hcz11_1 : w10.cell? ⟨gb198, 1, none⟩ = some (.int .i64 x3_2) := c_ BK198.out 1; have hfz11_0 := blk_frozen BK198.out 0; have hfz11_1 := blk_frozen BK198.out 1) | ((with_reducible refine gate_builtin (b := .append) (xs := #[.tmp 26, .tmp 28]) rfl ?_); at_builtin; refine Kd.R_append k43 (w0 := w) w.heap.size rfl (.tmp 26) (.tmp 28) 26 43 (.agg #[(.int .i64 0), (.int .i64 0)]) 16 rfl Try.underlying26 info43 rfl t29_ t46_ u1 x1_2 (⟨wrap64 (Int.tdiv x2_1 x3_2), x3_2⟩ : S43) [.int .i64 (wrap64 (Int.tdiv x2_1 x3_2)), .int .i64 x3_2] (fun k_ => k_ ≠ gb198) (fun _ => False) rfl rfl ?aP (fun _ hk => hk.elim) ?aF ?aO ?aB ?aS ?aL ?_; (case aP => exact k43_mkM _ _ _ (⟨wrap64 (Int.tdiv x2_1 x3_2), x3_2⟩ : S43)); (case aB => exact (L_ HB.out GE198.out GE198.out GE198.out)); (case aF => exact (fun k_ hk => Kd.freshB (B_ BK198.out) k_ hk)); (case aO => exact (by (with_reducible repeat (first | apply Kd.R_alloc | apply Kd.R_drewN | apply Kd.R_drew)); exact Kd.R_mono HO_1.out (fun _ hk => hk.2))); (case aS => exact (below_size (L_ HB.out GE198.out GE198.out GE198.out))); (case aL => have := LMc7.out; omega); intro v201 w12 ho hb hg hat; rw [← Ny200.out] at ho; have n0_ := a_ (blk_grown (B_ BK198.out) hg (Kd.R_away HO_1.out (fun _ hk => hk.2))); have n1_ := a_ (hb); have n2_ := a_ (ho); clear BK198; clear HB; clear HO_1; have BK198 := n0_; have HB := n1_; have HO202 := n2_; clear n0_ n1_ n2_; clear ho hb hg hat))
           go_roundg k2
           case measure => have := HK1.out; have := HK2.out; omega
           case rel => exact ⟨(y200), (wrap64 (x3_2 - 1)), t2_, H', ⟨t41_⟩, ⟨by (with_reducible repeat (first | apply Kd.R_alloc | apply Kd.R_drewN | apply Kd.R_drew)); exact Kd.R_mono HO202.out (fun _ hk => trivial)⟩, ⟨L_ HB.out GE198.out GE198.out GE198.out⟩⟩
          ·
           rw [if_neg c7] at H
           exact absurd H t31_
         ·
          replace c6 := Bool.eq_false_iff.mpr c6; subst c6; have H1 : (spec_daAll.l1 k2 x1_2 x2_1 (wrap64 (x3_2 - 1))) = some r := by rw [if_neg (show ¬ (false = true) by decide)] at H; exact H
          clear H; have H := H1; clear H1; have H' := a_ H; clear H
          go_wp2_with (first | ((with_reducible refine gate_dst (N := 4) rfl ?_); refine box_event ?hg (N := 4) ?hd (cs := #[.int .i64 0, .int .i64 0]) (t := 43) ?hr ?_; (case hd => rfl); (case hg => rfl); (case hr => first | (go_simp; done) | (go_simp; rfl)); intro gb198 hg w13 hbox hb; have n0_ := a_ (Kd.R_below (Kd.R_elderB (R_ HO_1.out) gb198 (Nat.le_of_eq hg.symm)) hb); have n1_ := a_ (below_step (L_ HB.out (Nat.le_refl _) (Nat.le_refl _) (Nat.le_refl _)) hb); have n2_ := a_ (hbox); have n3_ := a_ ((by rw [hg]; exact (below_size (L_ HB.out (Nat.le_refl _) (Nat.le_refl _) (Nat.le_refl _))) : w.heap.size ≤ gb198)); have n4_ := a_ ((by rw [hg]; exact (below_size (L_ HB.out (Nat.le_refl _) (Nat.le_refl _) (Nat.le_refl _))) : w.heap.size ≤ gb198)); clear HO_1; clear HB; have HO_1 := n0_; have HB := n1_; have BK198 := n2_; have GW198 := n3_; have GE198 := n4_; clear n0_ n1_ n2_ n3_ n4_; clear hb hbox hg; have hcz14_0 : w13.cell? ⟨gb198, 0, none⟩ = some (.int .i64 0) := c_ BK198.out 0; have hcz14_1 : w13.cell? ⟨gb198, 1, none⟩ = some (.int .i64 0) := c_ BK198.out 1; have hfz14_0 := blk_frozen BK198.out 0; have hfz14_1 := blk_frozen BK198.out 1) | (go_at_call 61; (with_reducible refine (spec_daGood.calls (wrap64 (Int.tdiv x2_1 x3_2)) x3_2 false _ A5.out).mono ?_); rintro e w15 ⟨rfl, hb⟩; have n0_ := a_ (Kd.R_below t35_ hb); have n1_ := a_ (blk_below (g := gb198) (o := .cells #[.int .i64 (wrap64 (Int.tdiv x2_1 x3_2)), .int .i64 x3_2] 43 (0, 0)) t33_ hb); have n2_ := a_ (below_step (L_ HB.out GE198.out GE198.out GE198.out) hb); clear HO_1; clear BK198; clear HB; have HO_1 := n0_; have BK198 := n1_; have HB := n2_; clear n0_ n1_ n2_; (try clear hb); (try clear hb2); (try clear hk); (try clear hi)))
          go_roundg k2
          case measure => have := HK1.out; have := HK2.out; omega
          case rel => exact ⟨(x1_2), (wrap64 (x3_2 - 1)), t2_, H', ⟨t41_⟩, ⟨by (with_reducible repeat (first | apply Kd.R_alloc | apply Kd.R_drewN | apply Kd.R_drew)); exact Kd.R_mono HO_1.out (fun _ hk => trivial)⟩, ⟨L_ HB.out GE198.out GE198.out GE198.out⟩⟩
        ·
         rw [if_neg c4] at H; have c4b0 : ((Int.tmod x2_1 x3_2) == 0) = false := beq_eq_false_iff_ne.mpr c4; have c4b1 : ((Int.tmod x2_1 x3_2) != 0) = true := bne_iff_ne.mpr c4; have H' := a_ H; clear H
         go_wp2_with (first | ((with_reducible refine gate_dst (N := 4) rfl ?_); refine box_event ?hg (N := 4) ?hd (cs := #[.int .i64 0, .int .i64 0]) (t := 43) ?hr ?_; (case hd => rfl); (case hg => rfl); (case hr => first | (go_simp; done) | (go_simp; rfl)); intro gb198 hg w16 hbox hb; have n0_ := a_ (Kd.R_below (Kd.R_elderB (R_ HO_1.out) gb198 (Nat.le_of_eq hg.symm)) hb); have n1_ := a_ (below_step (L_ HB.out (Nat.le_refl _) (Nat.le_refl _) (Nat.le_refl _)) hb); have n2_ := a_ (hbox); have n3_ := a_ ((by rw [hg]; exact (below_size (L_ HB.out (Nat.le_refl _) (Nat.le_refl _) (Nat.le_refl _))) : w.heap.size ≤ gb198)); have n4_ := a_ ((by rw [hg]; exact (below_size (L_ HB.out (Nat.le_refl _) (Nat.le_refl _) (Nat.le_refl _))) : w.heap.size ≤ gb198)); clear HO_1; clear HB; have HO_1 := n0_; have HB := n1_; have BK198 := n2_; have GW198 := n3_; have GE198 := n4_; clear n0_ n1_ n2_ n3_ n4_; clear hb hbox hg; have hcz17_0 : w16.cell? ⟨gb198, 0, none⟩ = some (.int .i64 0) := c_ BK198.out 0; have hcz17_1 : w16.cell? ⟨gb198, 1, none⟩ = some (.int .i64 0) := c_ BK198.out 1; have hfz17_0 := blk_frozen BK198.out 0; have hfz17_1 := blk_frozen BK198.out 1))
         go_roundg k2
         case measure => have := HK1.out; have := HK2.out; omega
         case rel => exact ⟨(x1_2), (wrap64 (x3_2 - 1)), t2_, H', ⟨t41_⟩, ⟨by (with_reducible repeat (first | apply Kd.R_alloc | apply Kd.R_drewN | apply Kd.R_drew)); exact Kd.R_mono (Kd.R_far (p := ⟨gb198, 1, none⟩) (Kd.R_far (p := ⟨gb198, 0, none⟩) (Kd.R_mono HO_1.out (fun k_ hk => (⟨hk, hk.2⟩ : _ ∧ k_ ≠ gb198))) (fun _ hk => hk.2) (.int .i64 (wrap64 (Int.tdiv x2_1 x3_2)))) (fun _ hk => hk.2) (.int .i64 x3_2)) (fun _ hk => trivial)⟩, ⟨L_ HB.out GE198.out GE198.out GE198.out⟩⟩
      ·
       rw [if_neg c2] at H; have c2b0 : decide (0 < x3_2) = false := decide_eq_false c2; clear c2; have H' := a_ H; clear H
       go_wp2
       go_roundg k2
       case measure => have := HK1.out; have := HK2.out; omega
       case rel => exact ⟨(x1_2), (wrap64 (x2_1 - 1)), t2_, H', ⟨t41_⟩, ⟨R_ HO_1.out⟩, ⟨L_ HB.out (Nat.le_refl _) (Nat.le_refl _) (Nat.le_refl _)⟩⟩
   ·
    rw [if_neg c1] at H; have c1b0 : decide (0 < x2_1) = false := decide_eq_false c1; clear c1; obtain rfl := Option.some.inj H
    go_wp2
    go_ret
    exact ⟨_, by first | rfl | (simp [errW_none, errW_some] <;> rfl) | (simp [*, errW_none, errW_some] <;> rfl), by (with_reducible repeat (first | apply Kd.R_alloc | apply Kd.R_drewN | apply Kd.R_drew)); exact HO_1.out, by repeat (first | (with_reducible first | exact HB.out | apply below_alloc | apply pw_below_drewN | apply below_drew1) | exact HB.out)⟩
end Go.Proofs.Ytacmfgbeaoalfaa.QFnDartsFinish
