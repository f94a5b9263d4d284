-- Written by a program of this session (wip/tools/gprintS.sh) out of the translation, with some contracts given by hand.
import Derived.Test.YtmijfimjlenmpaaQFnExactMostPointsx0
import Derived.Test.YtmijfimjlenmpaaGShort
namespace Go.Proofs.Ytmijfimjlenmpaa.QFnExactMostPoints
open Go.RowKit Go.Proofs.YtmijfimjlenmpaaW.PrintWords Go.Proofs.YtmijfimjlenmpaaW.PrintLast Go.Proofs.YtmijfimjlenmpaaW.PrintMore Go.Proofs.Ytmijfimjlenmpaa.Sh
attribute [local go_sem] max2_int min2_int max_two min_two max_three min_three max_four min_four   -- for this text's walks alone
set_option linter.unusedVariables false
set_option linter.unusedSimpArgs false

/-! ### spec_l1Own: function 56 -/
def spec_l1Own.f (l0 : List Int) : Option (List Int) := (some (([] : List Int) : List Int)).bind fun y101 => (if y101.length + l0.length < 17592186044416 then (some (y101 ++ l0)) else (none))
set_option maxHeartbeats 8000000 in
set_option maxRecDepth 100000 in
theorem spec_l1Own.calls (A0 : Option Addr) (c0 : Nat) (l0 : List Int) (r : List Int) (w : World) (hr0 : Kd.C (Kd.int .i64) w A0 l0.length l0) (hc0 : l0.length ≤ c0) (h : spec_l1Own.f l0 = some r) :
  Calls Try.prog 56 #[.slice A0 l0.length c0] w fun e w' => ∃ v0_ : Value, e = .returned (v0_) ∧ Kd.R (Kd.int .i64) 3 w' w.heap.size (fun _ => True) v0_ r ∧ Below w.heap.size w w' := by
 have HR0 := a_ hr0; have HC0 := a_ hc0; clear hr0 hc0; have HB := a_ (Below.refl w.heap.size w); have H : ((some (([] : List Int) : List Int)).bind fun y101 => (if y101.length + l0.length < 17592186044416 then (some (y101 ++ l0)) else (none))) = some r := h; clear h; obtain ⟨y101, hy101⟩ : ∃ y_ : List Int, y_ = (([] : List Int)) := ⟨_, rfl⟩; replace H : (if y101.length + l0.length < 17592186044416 then (some (y101 ++ l0)) else (none)) = some r := by first | (rw [hy101]; with_reducible exact H) | (have H2_ := (Option.bind_some _ _).symm.trans H; rw [hy101]; with_reducible exact H2_) | (have H2_ := (Option.bind_some _ _).symm.trans H; with_reducible exact H2_) | with_reducible exact H | (rw [hy101]; exact H) | exact H
 have Ny101 := a_ hy101; clear hy101
 by_cases c2 : y101.length + l0.length < 17592186044416
 ·
  rw [if_pos c2] at H; have LMc2 := a_ c2; clear c2; obtain ⟨y104, hy104⟩ : ∃ y_ : List Int, y_ = (y101 ++ l0) := ⟨_, rfl⟩; replace H : (some y104) = some r := by first | (rw [hy104]; with_reducible exact H) | (have H2_ := (Option.bind_some _ _).symm.trans H; rw [hy104]; with_reducible exact H2_) | (have H2_ := (Option.bind_some _ _).symm.trans H; with_reducible exact H2_) | with_reducible exact H | (rw [hy104]; exact H) | exact H
  have Ny104 := a_ hy104; clear hy104; obtain rfl := Option.some.inj H
  go_enter Try.func56, Try.ntmps56
  go_wp2_with (first | ((with_reducible refine gate_dst (N := 3) rfl ?_); refine Kd.R_lit (Kd.int .i64) _ 3 ?hg (N := 3) ?hd (xs := ([] : List Int)) (inner := []) (ok := fun _ => True) (okp := fun _ => True) ?hr ?hp (fun _ hk => hk) trivial (Below.refl _ _) (Nat.le_refl _) (by simp) ?_; (case hd => rfl); (case hg => rfl); (case hr => first | (go_simp; done) | (go_simp; rfl)); (case hp => exact (Reps.none _ _)); intro v102 w3 ho4 hb hg_ hnew_; clear hg_ hnew_; (first | rw [← Ny101.out] at ho4 | (simp only [Int.reduceToNat] at ho4; rw [← Ny101.out] at ho4)); have n0_ := a_ (Kd.R_lower ho4 (below_size (L_ HB.out (Nat.le_refl _) (Nat.le_refl _) (Nat.le_refl _)))); have n1_ := a_ (below_step (L_ HB.out (Nat.le_refl _) (Nat.le_refl _) (Nat.le_refl _)) hb); clear HB; have HO103 := n0_; have HB := n1_; clear n0_ n1_; clear hb ho4) | ((with_reducible refine gate_builtin (b := .append) (xs := #[.tmp 3, .tmp 4]) rfl ?_); at_builtin; refine Kd.R_append_rows (Kd.int .i64) (w0 := w) w.heap.size rfl (.tmp 3) (.tmp 4) 36 3 (.int .i64 0) 8 rfl Try.underlying36 info3 rfl (by decide) (by omega) v102 y101 l0 _ _ _ (fun _ => True) (fun _ => False) rfl rfl ?aO ?aR (fun _ _ h => h) (fun _ h => h.elim) ?aF ?aB ?aS ?aL ?_; (case aR => repeat (first | exact (Kd.C_below HR0.out HB.out) | (with_reducible refine Kd.C_alloc ?_ _) | (with_reducible refine Kd.C_drewN ?_ _) | (with_reducible refine Kd.C_drew ?_))); (case aB => exact (L_ HB.out (Nat.le_refl _) (Nat.le_refl _) (Nat.le_refl _))); (case aF => exact (fun _ _ => trivial)); (case aO => exact (R_ HO103.out)); (case aS => exact (below_size (L_ HB.out (Nat.le_refl _) (Nat.le_refl _) (Nat.le_refl _)))); (case aL => have := LMc2.out; omega); intro v105 w5 ho hb hg hat; rw [← Ny104.out] at ho; have n0_ := a_ (hb); have n1_ := a_ (ho); clear HB; clear HO103; have HB := n0_; have HO106 := n1_; clear n0_ n1_; clear ho hb hg hat))
  go_ret
  exact ⟨_, by first | rfl | (simp [errW_none, errW_some] <;> rfl) | (simp [*, errW_none, errW_some] <;> rfl), by (with_reducible repeat (first | apply Kd.R_alloc | apply Kd.R_drewN | apply Kd.R_drew)); exact HO106.out, by repeat (first | (with_reducible first | exact HB.out | apply below_alloc | apply pw_below_drewN | apply below_drew1) | exact HB.out)⟩
 ·
  rw [if_neg c2] at H
  exact absurd H (by simp)

/-! ### spec_lgGoals: function 57 -/
mutual
def spec_lgGoals.l0 : Nat → List (List Int) → Int → Int → Int → List (S68) → Option ((List (List Int)))
 | 0, _, _, _, _, _ => none
 | k + 1, x3, x4, x108000, x108001, x108002 => if x4 < x108000 then (spec_lgGoals.l1 k x3 x4 0 0 x108002 (x108002.length : Int) 0 x108000 x108001 x108002) else (some x3)
def spec_lgGoals.l1 : Nat → List (List Int) → Int → Int → Int → List (S68) → Int → Int → Int → Int → List (S68) → Option ((List (List Int)))
 | 0, _, _, _, _, _, _, _, _, _, _ => none
 | k + 1, x3, x4, x5, x6, x16, x17, x18, x108000, x108001, x108002 => if x18 < x17 then (if 0 ≤ x18 then (if x18 < (x16.length : Int) then (if x4 = ((rd_T68 x16 x18).f0) then (spec_lgGoals.l1 k x3 x4 (wrap64 (x5 + ((rd_T68 x16 x18).f2))) (wrap64 (x6 + ((rd_T68 x16 x18).f3))) x16 x17 (wrap64 (x18 + 1)) x108000 x108001 x108002) else (if x4 = ((rd_T68 x16 x18).f1) then (spec_lgGoals.l1 k x3 x4 (wrap64 (x5 + ((rd_T68 x16 x18).f3))) (wrap64 (x6 + ((rd_T68 x16 x18).f2))) x16 x17 (wrap64 (x18 + 1)) x108000 x108001 x108002) else (spec_lgGoals.l1 k x3 x4 x5 x6 x16 x17 (wrap64 (x18 + 1)) x108000 x108001 x108002))) else (none)) else (none)) else (if x3.length < 5864062014805 then (spec_lgGoals.l0 k (x3 ++ [(([x5, x6] : List Int))]) (wrap64 (x4 + 1)) x108000 x108001 x108002) else (none))
end
def spec_lgGoals.f (k : Nat) (a0_0 : Int) (a0_1 : Int) (l0_2 : List (S68)) : Option ((List (List Int))) := spec_lgGoals.l0 k ([] : List (List Int)) 0 a0_0 a0_1 l0_2
theorem spec_lgGoals.mono_l : ∀ k, (∀ y0 y1 y2 y3 y4, LeO (spec_lgGoals.l0 k y0 y1 y2 y3 y4) (spec_lgGoals.l0 (k + 1) y0 y1 y2 y3 y4)) ∧ (∀ y0 y1 y2 y3 y4 y5 y6 y7 y8 y9, LeO (spec_lgGoals.l1 k y0 y1 y2 y3 y4 y5 y6 y7 y8 y9) (spec_lgGoals.l1 (k + 1) y0 y1 y2 y3 y4 y5 y6 y7 y8 y9))
 | 0 => ⟨fun _ _ _ _ _ r h => by simp [spec_lgGoals.l0] at h, fun _ _ _ _ _ _ _ _ _ _ r h => by simp [spec_lgGoals.l1] at h⟩
 | k + 1 => by
  obtain ⟨ih0, ih1⟩ := spec_lgGoals.mono_l k
  refine ⟨?_, ?_⟩
  ·
   intro y0 y1 y2 y3 y4
   unfold spec_lgGoals.l0
   repeat' first
   | (with_reducible exact ih0 _ _ _ _ _)
   | (with_reducible exact ih1 _ _ _ _ _ _ _ _ _ _)
   | (with_reducible exact LeO.refl _)
   | (with_reducible exact LeO.none _)
   | (with_reducible refine LeO.ite ?_ ?_)
   | (with_reducible refine LeO.bind ?_ (fun _ => ?_))
   | exact ih0 _ _ _ _ _
   | exact ih1 _ _ _ _ _ _ _ _ _ _
   | exact LeO.none _
   | refine LeO.ite ?_ ?_
   | refine LeO.bind ?_ (fun _ => ?_)
  ·
   intro y0 y1 y2 y3 y4 y5 y6 y7 y8 y9
   unfold spec_lgGoals.l1
   repeat' first
   | (with_reducible exact ih0 _ _ _ _ _)
   | (with_reducible exact ih1 _ _ _ _ _ _ _ _ _ _)
   | (with_reducible exact LeO.refl _)
   | (with_reducible exact LeO.none _)
   | (with_reducible refine LeO.ite ?_ ?_)
   | (with_reducible refine LeO.bind ?_ (fun _ => ?_))
   | exact ih0 _ _ _ _ _
   | exact ih1 _ _ _ _ _ _ _ _ _ _
   | exact LeO.none _
   | refine LeO.ite ?_ ?_
   | refine LeO.bind ?_ (fun _ => ?_)
theorem spec_lgGoals.mono : ∀ a0 a1 a2 k, LeO (spec_lgGoals.f k a0 a1 a2) (spec_lgGoals.f (k + 1) a0 a1 a2) := by
 intro a0 a1 a2 k
 obtain ⟨ih0, ih1⟩ := spec_lgGoals.mono_l k
 unfold spec_lgGoals.f
 repeat' first
   | (with_reducible exact ih0 _ _ _ _ _)
   | (with_reducible exact ih1 _ _ _ _ _ _ _ _ _ _)
   | (with_reducible exact LeO.refl _)
   | (with_reducible exact LeO.none _)
   | (with_reducible refine LeO.ite ?_ ?_)
   | (with_reducible refine LeO.bind ?_ (fun _ => ?_))
   | exact ih0 _ _ _ _ _
   | exact ih1 _ _ _ _ _ _ _ _ _ _
   | exact LeO.none _
   | refine LeO.ite ?_ ?_
   | refine LeO.bind ?_ (fun _ => ?_)
set_option maxHeartbeats 8000000 in
set_option maxRecDepth 100000 in
theorem spec_lgGoals.calls (k : Nat) (a0_0 : Int) (a0_1 : Int) (A0_2 : Option Addr) (c0_2 : Nat) (l0_2 : List (S68)) (r : List (List Int)) (w : World) (hr0_2 : Kd.C k68 w A0_2 l0_2.length l0_2) (hc0_2 : l0_2.length ≤ c0_2) (h : spec_lgGoals.f k a0_0 a0_1 l0_2 = some r) :
  Calls Try.prog 57 #[.agg #[.int .i64 a0_0, .int .i64 a0_1, .slice A0_2 l0_2.length c0_2]] w fun e w' => ∃ v0_ : Value, e = .returned (v0_) ∧ Kd.S (Kd.slice 3 (Kd.int .i64)) 36 w' w.heap.size (fun _ => True) v0_ r ∧ Below w.heap.size w w' := by
 have hu30 := Try.underlying30; have hu68 := Try.underlying68; have HR0_2 := a_ hr0_2; have HC0_2 := a_ hc0_2; clear hr0_2 hc0_2; have HB := a_ (Below.refl w.heap.size w); have H : (spec_lgGoals.l0 k ([] : List (List Int)) 0 a0_0 a0_1 l0_2) = some r := h; clear h; have H' := a_ H; clear H
 go_enter Try.func57, Try.ntmps57
 go_wp2_with (first | ((with_reducible refine gate_dst (N := 1) rfl ?_); refine box_event ?hg (N := 1) ?hd (cs := #[.int .i64 a0_0, .int .i64 a0_1, .slice A0_2 l0_2.length c0_2]) (t := 30) ?hr ?_; (case hd => rfl); (case hg => rfl); (case hr => first | (go_simp; done) | (go_simp; rfl)); intro gb107 hg w2 hbox hb; have n0_ := a_ (below_step (L_ HB.out (Nat.le_refl _) (Nat.le_refl _) (Nat.le_refl _)) hb); have n1_ := a_ (hbox); have n2_ := a_ ((by rw [hg]; exact (below_size (L_ HB.out (Nat.le_refl _) (Nat.le_refl _) (Nat.le_refl _))) : w.heap.size ≤ gb107)); have n3_ := a_ ((by rw [hg]; exact (below_size (L_ HB.out (Nat.le_refl _) (Nat.le_refl _) (Nat.le_refl _))) : w.heap.size ≤ gb107)); clear HB; have HB := n0_; have BK107 := n1_; have GW107 := n2_; have GE107 := n3_; clear n0_ n1_ n2_ n3_; clear hb hbox hg))
 go_loopg [3, 4] k (fun kq v3 v4 w' => ∃ (x3_1 : List (List Int)) (x4_1 : Int), v4 = .int .i64 x4_1 ∧ Aside0 (spec_lgGoals.l0 kq x3_1 x4_1 a0_0 a0_1 l0_2 = some r) ∧ Aside0 (kq ≤ k) ∧ Aside0 (Kd.S (Kd.slice 3 (Kd.int .i64)) 36 w' w.heap.size (fun _ => True) v3 x3_1) ∧ Aside0 (w'.heap[gb107]? = some (.cells #[.int .i64 a0_0, .int .i64 a0_1, (.slice A0_2 l0_2.length c0_2)] 30 (0, 0))) ∧ Aside0 (Below w.heap.size w w'))
 case atStart => exact ⟨(([] : List (List Int))), (0), (by first | rfl | (simp; done) | (simp [*]; done)), H', ⟨Nat.le_refl _⟩, ⟨by first | exact Kd.S_nil _ _ _ _ _ | exact Kd.N_nil _ _ _ _ _ | exact Kd.V_nil _ _ _ _ _ | exact Kd.Q_nil _ _ _ _ _ | exact Kd.R_nil _ _ _ _ _⟩, ⟨B_ BK107.out⟩, ⟨L_ HB.out GE107.out GE107.out GE107.out⟩⟩
 case round =>
  clear H'
  try clear p2
  obtain ⟨x3_1, x4_1, rfl, HA, HK1, HO_3, BK107, HB⟩ := hrel
  cases gk with
  | zero => exact absurd HA.out (by simp [spec_lgGoals.l0])
  | succ k1 =>
   have H := HA.out; clear HA; simp only [spec_lgGoals.l0] at H
   by_cases c3 : x4_1 < a0_0
   ·
    rw [if_pos c3] at H; have c3b0 : decide (x4_1 < a0_0) = true := decide_eq_true c3; clear c3; have H' := a_ H; clear H; have hcz4_0 : wr.cell? ⟨gb107, 0, none⟩ = some (.int .i64 a0_0) := c_ BK107.out 0; have hcz4_1 : wr.cell? ⟨gb107, 1, none⟩ = some (.int .i64 a0_1) := c_ BK107.out 1; have hcz4_2 : wr.cell? ⟨gb107, 2, none⟩ = some (.slice A0_2 l0_2.length c0_2) := c_ BK107.out 2; have hfz4_0 := blk_frozen BK107.out 0; have hfz4_1 := blk_frozen BK107.out 1; have hfz4_2 := blk_frozen BK107.out 2
    go_wp2
    go_loopg [5, 6, 18] k1 (fun kq v5 v6 v18 w' => ∃ (x5_2 : Int) (x6_2 : Int) (x18_2 : Int), v5 = .int .i64 x5_2 ∧ v6 = .int .i64 x6_2 ∧ v18 = .int .i64 x18_2 ∧ Aside0 (spec_lgGoals.l1 kq x3_1 x4_1 x5_2 x6_2 l0_2 (l0_2.length : Int) x18_2 a0_0 a0_1 l0_2 = some r) ∧ Aside0 (kq ≤ k1) ∧ Aside0 (Kd.S (Kd.slice 3 (Kd.int .i64)) 36 w' w.heap.size (fun _ => True) u3 x3_1) ∧ Aside0 (w'.heap[gb107]? = some (.cells #[.int .i64 a0_0, .int .i64 a0_1, (.slice A0_2 l0_2.length c0_2)] 30 (0, 0))) ∧ Aside0 (Below w.heap.size w w'))
    case atStart => exact ⟨(0), (0), (0), (by first | rfl | (simp; done) | (simp [*]; done)), (by first | rfl | (simp; done) | (simp [*]; done)), (by first | rfl | (simp; done) | (simp [*]; done)), H', ⟨Nat.le_refl _⟩, ⟨S_ HO_3.out⟩, ⟨B_ BK107.out⟩, ⟨L_ HB.out GE107.out GE107.out GE107.out⟩⟩
    case round =>
     clear H'
     try clear p2
     try clear c3
     try clear c3b0
     try clear hcz4_0 hcz4_1 hcz4_2
     try clear hfz4_0 hfz4_1 hfz4_2
     try clear p2
     obtain ⟨x5_2, x6_2, x18_2, rfl, rfl, rfl, HA, HK2, HO_3, BK107, HB⟩ := hrel
     cases gk with
     | zero => exact absurd HA.out (by simp [spec_lgGoals.l1])
     | succ k2 =>
      have H := HA.out; clear HA; simp only [spec_lgGoals.l1] at H
      by_cases c5 : x18_2 < (l0_2.length : Int)
      ·
       rw [if_pos c5] at H; have c5b0 : decide (x18_2 < (l0_2.length : Int)) = true := decide_eq_true c5; clear c5
       by_cases c6 : 0 ≤ x18_2
       ·
        rw [if_pos c6] at H; have c6b0 : decide (0 ≤ x18_2) = true := decide_eq_true c6; clear c6
        by_cases c7 : x18_2 < (l0_2.length : Int)
        ·
         rw [if_pos c7] at H; have c7b0 : decide (x18_2 < (l0_2.length : Int)) = true := decide_eq_true c7; clear c7
         by_cases c8 : x4_1 = ((rd_T68 l0_2 x18_2).f0)
         ·
          rw [if_pos c8] at H; have c8b0 : (x4_1 == ((rd_T68 l0_2 x18_2).f0)) = true := beq_iff_eq.mpr c8; have c8b1 : (x4_1 != ((rd_T68 l0_2 x18_2).f0)) = false := bne_eq_false_iff_eq.mpr c8; clear c8; have H' := a_ H; clear H; have p114 : 0 ≤ (x18_2 : Int) := of_decide_eq_true (by first | (with_reducible assumption) | assumption); have q114 : x18_2 < (l0_2.length : Int) := of_decide_eq_true (by first | (with_reducible assumption) | assumption); obtain ⟨ad114, e114, hx114_0, hx114_1, hx114_2, hx114_3⟩ := at_T68 HR0_2.out x18_2 p114 q114
          cases e114
          replace hx114_0 := (HB.out.cell (World.block_lt_of_cell? w _ hx114_0)).trans hx114_0; replace hx114_1 := (HB.out.cell (World.block_lt_of_cell? w _ hx114_1)).trans hx114_1; replace hx114_2 := (HB.out.cell (World.block_lt_of_cell? w _ hx114_2)).trans hx114_2; replace hx114_3 := (HB.out.cell (World.block_lt_of_cell? w _ hx114_3)).trans hx114_3; replace p114 := eq_true p114; replace q114 := eq_true q114
          go_wp2_with (first | ((with_reducible refine gate_dst (N := 8) rfl ?_); refine box_event ?hg (N := 8) ?hd (cs := #[.int .i64 0, .int .i64 0, .int .i64 0, .int .i64 0]) (t := 68) ?hr ?_; (case hd => rfl); (case hg => rfl); (case hr => first | (go_simp; done) | (go_simp; rfl)); intro gb115 hg w9 hbox hb; have n0_ := a_ (Kd.S_below (S_ HO_3.out) hb); have n1_ := bb_ BK107 hb; have n2_ := a_ (below_step (L_ HB.out GE107.out GE107.out GE107.out) hb); have n3_ := a_ (hbox); have n4_ := a_ ((by rw [hg]; exact (below_size (L_ HB.out GE107.out GE107.out GE107.out)) : w.heap.size ≤ gb115)); have n5_ := a_ ((by rw [hg]; exact (below_size (L_ HB.out GE107.out GE107.out GE107.out)) : w.heap.size ≤ gb115)); have n6_ := a_ ((by rw [hg]; exact Nat.ne_of_lt (blk_lt (B_ BK107.out)) : gb107 ≠ gb115)); have n7_ := a_ ((by rw [hg]; exact Nat.ne_of_gt (blk_lt (B_ BK107.out)) : gb115 ≠ gb107)); clear HO_3; clear BK107; clear HB; have HO_3 := n0_; have BK107 := n1_; have HB := n2_; have BK115 := n3_; have GW115 := n4_; have GE115 := n5_; have NB107_115 := n6_; have NB115_107 := n7_; clear n0_ n1_ n2_ n3_ n4_ n5_ n6_ n7_; clear hb hbox hg; have hnb10 := NB115_107.out; have hnc10 := NB107_115.out; have hcz11_0 : w9.cell? ⟨gb115, 0, none⟩ = some (.int .i64 0) := c_ BK115.out 0; have hcz11_1 : w9.cell? ⟨gb115, 1, none⟩ = some (.int .i64 0) := c_ BK115.out 1; have hcz11_2 : w9.cell? ⟨gb115, 2, none⟩ = some (.int .i64 0) := c_ BK115.out 2; have hcz11_3 : w9.cell? ⟨gb115, 3, none⟩ = some (.int .i64 0) := c_ BK115.out 3; have hfz11_0 := blk_frozen BK115.out 0; have hfz11_1 := blk_frozen BK115.out 1; have hfz11_2 := blk_frozen BK115.out 2; have hfz11_3 := blk_frozen BK115.out 3))
          go_roundg k2
          case measure => have := HK1.out; have := HK2.out; omega
          case rel => exact ⟨(wrap64 (x5_2 + ((rd_T68 l0_2 x18_2).f2))), (wrap64 (x6_2 + ((rd_T68 l0_2 x18_2).f3))), (wrap64 (x18_2 + 1)), (by first | rfl | (simp; done) | (simp [*]; done)), (by first | rfl | (simp; done) | (simp [*]; done)), (by first | rfl | (simp; done) | (simp [*]; done)), H', ⟨by have := HK1.out; have := HK2.out; omega⟩, ⟨by (with_reducible repeat (first | apply Kd.S_alloc | apply Kd.S_drewN | apply Kd.S_drew)); exact Kd.S_mono (Kd.S_far (p := ⟨gb115, 3, none⟩) (Kd.S_far (p := ⟨gb115, 2, none⟩) (Kd.S_far (p := ⟨gb115, 1, none⟩) (Kd.S_far (p := ⟨gb115, 0, none⟩) (Kd.S_types HO_3.out BK115.out (by decide)) (fun _ hk => hk.2) (.int .i64 ((rd_T68 l0_2 x18_2).f0))) (fun _ hk => hk.2) (.int .i64 ((rd_T68 l0_2 x18_2).f1))) (fun _ hk => hk.2) (.int .i64 ((rd_T68 l0_2 x18_2).f2))) (fun _ hk => hk.2) (.int .i64 ((rd_T68 l0_2 x18_2).f3))) (fun _ hk => trivial)⟩, ⟨by (with_reducible repeat (first | refine blk_drewN ?_ _ | refine blk_drew ?_ | refine blk_alloc ?_ _)); refine blk_far ?_ NB107_115.out _; refine blk_far ?_ NB107_115.out _; refine blk_far ?_ NB107_115.out _; refine blk_far ?_ NB107_115.out _; exact B_ BK107.out⟩, ⟨L_ HB.out GE107.out GE115.out GE115.out⟩⟩
         ·
          rw [if_neg c8] at H; have c8b0 : (x4_1 == ((rd_T68 l0_2 x18_2).f0)) = false := beq_eq_false_iff_ne.mpr c8; have c8b1 : (x4_1 != ((rd_T68 l0_2 x18_2).f0)) = true := bne_iff_ne.mpr c8
          by_cases c12 : x4_1 = ((rd_T68 l0_2 x18_2).f1)
          ·
           rw [if_pos c12] at H; have c12b0 : (x4_1 == ((rd_T68 l0_2 x18_2).f1)) = true := beq_iff_eq.mpr c12; have c12b1 : (x4_1 != ((rd_T68 l0_2 x18_2).f1)) = false := bne_eq_false_iff_eq.mpr c12; clear c12; have H' := a_ H; clear H; have p114 : 0 ≤ (x18_2 : Int) := of_decide_eq_true (by first | (with_reducible assumption) | assumption); have q114 : x18_2 < (l0_2.length : Int) := of_decide_eq_true (by first | (with_reducible assumption) | assumption); obtain ⟨ad114, e114, hx114_0, hx114_1, hx114_2, hx114_3⟩ := at_T68 HR0_2.out x18_2 p114 q114
           cases e114
           replace hx114_0 := (HB.out.cell (World.block_lt_of_cell? w _ hx114_0)).trans hx114_0; replace hx114_1 := (HB.out.cell (World.block_lt_of_cell? w _ hx114_1)).trans hx114_1; replace hx114_2 := (HB.out.cell (World.block_lt_of_cell? w _ hx114_2)).trans hx114_2; replace hx114_3 := (HB.out.cell (World.block_lt_of_cell? w _ hx114_3)).trans hx114_3; replace p114 := eq_true p114; replace q114 := eq_true q114
           go_wp2_with (first | ((with_reducible refine gate_dst (N := 8) rfl ?_); refine box_event ?hg (N := 8) ?hd (cs := #[.int .i64 0, .int .i64 0, .int .i64 0, .int .i64 0]) (t := 68) ?hr ?_; (case hd => rfl); (case hg => rfl); (case hr => first | (go_simp; done) | (go_simp; rfl)); intro gb115 hg w13 hbox hb; have n0_ := a_ (Kd.S_below (S_ HO_3.out) hb); have n1_ := bb_ BK107 hb; have n2_ := a_ (below_step (L_ HB.out GE107.out GE107.out GE107.out) hb); have n3_ := a_ (hbox); have n4_ := a_ ((by rw [hg]; exact (below_size (L_ HB.out GE107.out GE107.out GE107.out)) : w.heap.size ≤ gb115)); have n5_ := a_ ((by rw [hg]; exact (below_size (L_ HB.out GE107.out GE107.out GE107.out)) : w.heap.size ≤ gb115)); have n6_ := a_ ((by rw [hg]; exact Nat.ne_of_lt (blk_lt (B_ BK107.out)) : gb107 ≠ gb115)); have n7_ := a_ ((by rw [hg]; exact Nat.ne_of_gt (blk_lt (B_ BK107.out)) : gb115 ≠ gb107)); clear HO_3; clear BK107; clear HB; have HO_3 := n0_; have BK107 := n1_; have HB := n2_; have BK115 := n3_; have GW115 := n4_; have GE115 := n5_; have NB107_115 := n6_; have NB115_107 := n7_; clear n0_ n1_ n2_ n3_ n4_ n5_ n6_ n7_; clear hb hbox hg; have hnb14 := NB115_107.out; have hnc14 := NB107_115.out; have hcz15_0 : w13.cell? ⟨gb115, 0, none⟩ = some (.int .i64 0) := c_ BK115.out 0; have hcz15_1 : w13.cell? ⟨gb115, 1, none⟩ = some (.int .i64 0) := c_ BK115.out 1; have hcz15_2 : w13.cell? ⟨gb115, 2, none⟩ = some (.int .i64 0) := c_ BK115.out 2; have hcz15_3 : w13.cell? ⟨gb115, 3, none⟩ = some (.int .i64 0) := c_ BK115.out 3; have hfz15_0 := blk_frozen BK115.out 0; have hfz15_1 := blk_frozen BK115.out 1; have hfz15_2 := blk_frozen BK115.out 2; have hfz15_3 := blk_frozen BK115.out 3))
           go_roundg k2
           case measure => have := HK1.out; have := HK2.out; omega
           case rel => exact ⟨(wrap64 (x5_2 + ((rd_T68 l0_2 x18_2).f3))), (wrap64 (x6_2 + ((rd_T68 l0_2 x18_2).f2))), (wrap64 (x18_2 + 1)), (by first | rfl | (simp; done) | (simp [*]; done)), (by first | rfl | (simp; done) | (simp [*]; done)), (by first | rfl | (simp; done) | (simp [*]; done)), H', ⟨by have := HK1.out; have := HK2.out; omega⟩, ⟨by (with_reducible repeat (first | apply Kd.S_alloc | apply Kd.S_drewN | apply Kd.S_drew)); exact Kd.S_mono (Kd.S_far (p := ⟨gb115, 3, none⟩) (Kd.S_far (p := ⟨gb115, 2, none⟩) (Kd.S_far (p := ⟨gb115, 1, none⟩) (Kd.S_far (p := ⟨gb115, 0, none⟩) (Kd.S_types HO_3.out BK115.out (by decide)) (fun _ hk => hk.2) (.int .i64 ((rd_T68 l0_2 x18_2).f0))) (fun _ hk => hk.2) (.int .i64 ((rd_T68 l0_2 x18_2).f1))) (fun _ hk => hk.2) (.int .i64 ((rd_T68 l0_2 x18_2).f2))) (fun _ hk => hk.2) (.int .i64 ((rd_T68 l0_2 x18_2).f3))) (fun _ hk => trivial)⟩, ⟨by (with_reducible repeat (first | refine blk_drewN ?_ _ | refine blk_drew ?_ | refine blk_alloc ?_ _)); refine blk_far ?_ NB107_115.out _; refine blk_far ?_ NB107_115.out _; refine blk_far ?_ NB107_115.out _; refine blk_far ?_ NB107_115.out _; exact B_ BK107.out⟩, ⟨L_ HB.out GE107.out GE115.out GE115.out⟩⟩
          ·
           rw [if_neg c12] at H; have c12b0 : (x4_1 == ((rd_T68 l0_2 x18_2).f1)) = false := beq_eq_false_iff_ne.mpr c12; have c12b1 : (x4_1 != ((rd_T68 l0_2 x18_2).f1)) = true := bne_iff_ne.mpr c12; have H' := a_ H; clear H; have p114 : 0 ≤ (x18_2 : Int) := of_decide_eq_true (by first | (with_reducible assumption) | assumption); have q114 : x18_2 < (l0_2.length : Int) := of_decide_eq_true (by first | (with_reducible assumption) | assumption); obtain ⟨ad114, e114, hx114_0, hx114_1, hx114_2, hx114_3⟩ := at_T68 HR0_2.out x18_2 p114 q114
           cases e114
           replace hx114_0 := (HB.out.cell (World.block_lt_of_cell? w _ hx114_0)).trans hx114_0; replace hx114_1 := (HB.out.cell (World.block_lt_of_cell? w _ hx114_1)).trans hx114_1; replace hx114_2 := (HB.out.cell (World.block_lt_of_cell? w _ hx114_2)).trans hx114_2; replace hx114_3 := (HB.out.cell (World.block_lt_of_cell? w _ hx114_3)).trans hx114_3; replace p114 := eq_true p114; replace q114 := eq_true q114
           go_wp2_with (first | ((with_reducible refine gate_dst (N := 8) rfl ?_); refine box_event ?hg (N := 8) ?hd (cs := #[.int .i64 0, .int .i64 0, .int .i64 0, .int .i64 0]) (t := 68) ?hr ?_; (case hd => rfl); (case hg => rfl); (case hr => first | (go_simp; done) | (go_simp; rfl)); intro gb115 hg w16 hbox hb; have n0_ := a_ (Kd.S_below (S_ HO_3.out) hb); have n1_ := bb_ BK107 hb; have n2_ := a_ (below_step (L_ HB.out GE107.out GE107.out GE107.out) hb); have n3_ := a_ (hbox); have n4_ := a_ ((by rw [hg]; exact (below_size (L_ HB.out GE107.out GE107.out GE107.out)) : w.heap.size ≤ gb115)); have n5_ := a_ ((by rw [hg]; exact (below_size (L_ HB.out GE107.out GE107.out GE107.out)) : w.heap.size ≤ gb115)); have n6_ := a_ ((by rw [hg]; exact Nat.ne_of_lt (blk_lt (B_ BK107.out)) : gb107 ≠ gb115)); have n7_ := a_ ((by rw [hg]; exact Nat.ne_of_gt (blk_lt (B_ BK107.out)) : gb115 ≠ gb107)); clear HO_3; clear BK107; clear HB; have HO_3 := n0_; have BK107 := n1_; have HB := n2_; have BK115 := n3_; have GW115 := n4_; have GE115 := n5_; have NB107_115 := n6_; have NB115_107 := n7_; clear n0_ n1_ n2_ n3_ n4_ n5_ n6_ n7_; clear hb hbox hg; have hnb17 := NB115_107.out; have hnc17 := NB107_115.out; have hcz18_0 : w16.cell? ⟨gb115, 0, none⟩ = some (.int .i64 0) := c_ BK115.out 0; have hcz18_1 : w16.cell? ⟨gb115, 1, none⟩ = some (.int .i64 0) := c_ BK115.out 1; have hcz18_2 : w16.cell? ⟨gb115, 2, none⟩ = some (.int .i64 0) := c_ BK115.out 2; have hcz18_3 : w16.cell? ⟨gb115, 3, none⟩ = some (.int .i64 0) := c_ BK115.out 3; have hfz18_0 := blk_frozen BK115.out 0; have hfz18_1 := blk_frozen BK115.out 1; have hfz18_2 := blk_frozen BK115.out 2; have hfz18_3 := blk_frozen BK115.out 3))
           go_roundg k2
           case measure => have := HK1.out; have := HK2.out; omega
           case rel => exact ⟨(x5_2), (x6_2), (wrap64 (x18_2 + 1)), (by first | rfl | (simp; done) | (simp [*]; done)), (by first | rfl | (simp; done) | (simp [*]; done)), (by first | rfl | (simp; done) | (simp [*]; done)), H', ⟨by have := HK1.out; have := HK2.out; omega⟩, ⟨by (with_reducible repeat (first | apply Kd.S_alloc | apply Kd.S_drewN | apply Kd.S_drew)); exact Kd.S_mono (Kd.S_far (p := ⟨gb115, 3, none⟩) (Kd.S_far (p := ⟨gb115, 2, none⟩) (Kd.S_far (p := ⟨gb115, 1, none⟩) (Kd.S_far (p := ⟨gb115, 0, none⟩) (Kd.S_types HO_3.out BK115.out (by decide)) (fun _ hk => hk.2) (.int .i64 ((rd_T68 l0_2 x18_2).f0))) (fun _ hk => hk.2) (.int .i64 ((rd_T68 l0_2 x18_2).f1))) (fun _ hk => hk.2) (.int .i64 ((rd_T68 l0_2 x18_2).f2))) (fun _ hk => hk.2) (.int .i64 ((rd_T68 l0_2 x18_2).f3))) (fun _ hk => trivial)⟩, ⟨by (with_reducible repeat (first | refine blk_drewN ?_ _ | refine blk_drew ?_ | refine blk_alloc ?_ _)); refine blk_far ?_ NB107_115.out _; refine blk_far ?_ NB107_115.out _; refine blk_far ?_ NB107_115.out _; refine blk_far ?_ NB107_115.out _; exact B_ BK107.out⟩, ⟨L_ HB.out GE107.out GE115.out GE115.out⟩⟩
        ·
         rw [if_neg c7] at H
         exact absurd H (by simp)
       ·
        rw [if_neg c6] at H
        exact absurd H (by simp)
      ·
       rw [if_neg c5] at H; have c5b0 : decide (x18_2 < (l0_2.length : Int)) = false := decide_eq_false c5; clear c5; obtain ⟨y108, hy108⟩ : ∃ y_ : List Int, y_ = (([x5_2, x6_2] : List Int)) := ⟨_, rfl⟩; replace H : (if x3_1.length < 5864062014805 then (spec_lgGoals.l0 k2 (x3_1 ++ [y108]) (wrap64 (x4_1 + 1)) a0_0 a0_1 l0_2) else (none)) = some r := by first | (rw [hy108]; with_reducible exact H) | (have H2_ := (Option.bind_some _ _).symm.trans H; rw [hy108]; with_reducible exact H2_) | (have H2_ := (Option.bind_some _ _).symm.trans H; with_reducible exact H2_) | with_reducible exact H | (rw [hy108]; exact H) | exact H
       have Ny108 := a_ hy108; clear hy108
       by_cases c19 : x3_1.length < 5864062014805
       ·
        rw [if_pos c19] at H; have LMc19 := a_ c19; clear c19; obtain ⟨y111, hy111⟩ : ∃ y_ : List (List Int), y_ = (x3_1 ++ [y108]) := ⟨_, rfl⟩; replace H : (spec_lgGoals.l0 k2 y111 (wrap64 (x4_1 + 1)) a0_0 a0_1 l0_2) = some r := by first | (rw [hy111]; with_reducible exact H) | (have H2_ := (Option.bind_some _ _).symm.trans H; rw [hy111]; with_reducible exact H2_) | (have H2_ := (Option.bind_some _ _).symm.trans H; with_reducible exact H2_) | with_reducible exact H | (rw [hy111]; exact H) | exact H
        have Ny111 := a_ hy111; clear hy111; have H' := a_ H; clear H
        go_wp2_with (first | ((with_reducible refine gate_dst (N := 51) rfl ?_); refine Kd.R_lit (Kd.int .i64) _ 3 ?hg (N := 51) ?hd (xs := ([x5_2, x6_2] : List Int)) (inner := [.int .i64 x5_2, .int .i64 x6_2]) (ok := fun _ => True) (okp := fun _ => True) ?hr ?hp (fun _ hk => hk) trivial (Below.refl _ _) (Nat.le_refl _) (by simp) ?_; (case hd => rfl); (case hg => rfl); (case hr => first | (go_simp; done) | (go_simp; rfl)); (case hp => exact (Reps.one (show Kd.M (Kd.int .i64) _ _ _ x5_2 [.int .i64 x5_2] from rfl) (Reps.one (show Kd.M (Kd.int .i64) _ _ _ x6_2 [.int .i64 x6_2] from rfl) (Reps.none _ _)))); intro v109 w20 ho21 hb hg_ hnew_; clear hg_ hnew_; (first | rw [← Ny108.out] at ho21 | (simp only [Int.reduceToNat] at ho21; rw [← Ny108.out] at ho21)); have n0_ := a_ (Kd.S_elder' (S_ HO_3.out) (Kd.R_base ho21) hb); have n1_ := a_ (Kd.R_lower ho21 (below_size (L_ HB.out GE107.out GE107.out GE107.out))); have n2_ := bb_ BK107 hb; have n3_ := a_ (below_step (L_ HB.out GE107.out GE107.out GE107.out) hb); clear HO_3; clear BK107; clear HB; have HO_3 := n0_; have HO110 := n1_; have BK107 := n2_; have HB := n3_; clear n0_ n1_ n2_ n3_; clear hb ho21; obtain ⟨Ao23, co23, eo23⟩ := Kd.R_slice HO110.out; subst eo23) | ((with_reducible refine gate_builtin (b := .append) (xs := #[.tmp 48, .tmp 52]) rfl ?_); at_builtin; refine Kd.S_append (Kd.slice 3 (Kd.int .i64)) (w0 := w) w.heap.size rfl (.tmp 48) (.tmp 52) 46 36 (.slice none 0 0) 24 rfl Try.underlying46 info36 rfl (by decide) (by omega) u3 x3_1 y108 [.slice Ao23 y108.length co23] (fun _ => True) (fun k_ => some k_ = (.slice Ao23 y108.length co23 : Value).ownBlock) rfl rfl ?aP (fun k_ hk_ => ((Kd.R_mono (ok' := fun k_ => ((fun _ => True)) k_ ∧ some k_ ≠ (u3 : Value).ownBlock) (Kd.R_apart' (HO110.out) (Kd.S_typed HO_3.out) (by decide)) (fun k_ hk => ⟨trivial, hk.2⟩))).1 k_ hk_.symm) ?aF ?aO ?aB ?aS ?aL ?_; (case aP => exact Kd.M_row (Kd.R_mono (Kd.R_tight rfl (Kd.R_mono (ok' := fun k_ => ((fun _ => True)) k_ ∧ some k_ ≠ (u3 : Value).ownBlock) (Kd.R_apart' (HO110.out) (Kd.S_typed HO_3.out) (by decide)) (fun k_ hk => ⟨trivial, hk.2⟩))) (fun _ h_ => h_))); (case aB => exact (L_ HB.out GE107.out GE107.out GE107.out)); (case aF => exact (fun _ _ => trivial)); (case aO => exact (by (with_reducible repeat (first | apply Kd.S_alloc | apply Kd.S_drewN | apply Kd.S_drew)); exact Kd.S_mono HO_3.out (fun k_ hk => ⟨trivial, fun e_ => hk.2 e_⟩))); (case aS => exact (below_size (L_ HB.out GE107.out GE107.out GE107.out))); (case aL => have := LMc19.out; omega); intro v112 w22 ho hb hg hat; rw [← Ny111.out] at ho; have n0_ := a_ (blk_grown (B_ BK107.out) hg (Kd.S_ne HO_3.out BK107.out (by decide))); have n1_ := a_ (hb); have n2_ := a_ (ho); clear BK107; clear HB; clear HO_3; clear HO110; have BK107 := n0_; have HB := n1_; have HO113 := n2_; clear n0_ n1_ n2_; clear ho hb hg hat))
        go_roundg k2
        case measure => have := HK1.out; have := HK2.out; omega
        case rel => exact ⟨(y111), (wrap64 (x4_1 + 1)), (by first | rfl | (simp; done) | (simp [*]; done)), H', ⟨by have := HK1.out; have := HK2.out; omega⟩, ⟨S_ HO113.out⟩, ⟨B_ BK107.out⟩, ⟨L_ HB.out GE107.out GE107.out GE107.out⟩⟩
       ·
        rw [if_neg c19] at H
        exact absurd H (by simp)
   ·
    rw [if_neg c3] at H; have c3b0 : decide (x4_1 < a0_0) = false := decide_eq_false c3; clear c3; obtain rfl := Option.some.inj H; have hcz24_0 : wr.cell? ⟨gb107, 0, none⟩ = some (.int .i64 a0_0) := c_ BK107.out 0; have hcz24_1 : wr.cell? ⟨gb107, 1, none⟩ = some (.int .i64 a0_1) := c_ BK107.out 1; have hcz24_2 : wr.cell? ⟨gb107, 2, none⟩ = some (.slice A0_2 l0_2.length c0_2) := c_ BK107.out 2; have hfz24_0 := blk_frozen BK107.out 0; have hfz24_1 := blk_frozen BK107.out 1; have hfz24_2 := blk_frozen BK107.out 2
    go_wp2
    go_ret
    exact ⟨_, by first | rfl | (simp [errW_none, errW_some] <;> rfl) | (simp [*, errW_none, errW_some] <;> rfl), by (with_reducible repeat (first | apply Kd.S_alloc | apply Kd.S_drewN | apply Kd.S_drew)); exact HO_3.out, by repeat (first | (with_reducible first | exact HB.out | apply below_alloc | apply pw_below_drewN | apply below_drew1 | refine below_set ?_ GE107.out) | exact HB.out)⟩

/-! ### spec_lgAhead: function 58 -/
def spec_lgAhead.f (l0 : List Int) (l1 : List (List Int)) (a2 : Int) (a3 : Int) : Option (Bool) := if 0 ≤ a2 then (if a2 < (l1.length : Int) then (if 0 < ((rd_L3 l1 a2).length : Int) then (if 1 < ((rd_L3 l1 a2).length : Int) then (if 0 ≤ a3 then (if a3 < (l1.length : Int) then (if 0 < ((rd_L3 l1 a3).length : Int) then (if 1 < ((rd_L3 l1 a3).length : Int) then (if a2 < (l0.length : Int) then (if a3 < (l0.length : Int) then (if (rd l0 a2) = (rd l0 a3) then (if (wrap64 ((rd (rd_L3 l1 a2) 0) - (rd (rd_L3 l1 a2) 1))) = (wrap64 ((rd (rd_L3 l1 a3) 0) - (rd (rd_L3 l1 a3) 1))) then (some (decide ((rd (rd_L3 l1 a2) 0) > (rd (rd_L3 l1 a3) 0)))) else (some (decide ((wrap64 ((rd (rd_L3 l1 a2) 0) - (rd (rd_L3 l1 a2) 1))) > (wrap64 ((rd (rd_L3 l1 a3) 0) - (rd (rd_L3 l1 a3) 1))))))) else (some (decide ((rd l0 a2) > (rd l0 a3))))) else (none)) else (none)) else (none)) else (none)) else (none)) else (none)) else (none)) else (none)) else (none)) else (none)
set_option maxHeartbeats 8000000 in
set_option maxRecDepth 100000 in
theorem spec_lgAhead.calls (A0 : Option Addr) (c0 : Nat) (l0 : List Int) (A1 : Option Addr) (c1 : Nat) (l1 : List (List Int)) (a2 : Int) (a3 : Int) (r : Bool) (w : World) (hr0 : Kd.C (Kd.int .i64) w A0 l0.length l0) (hc0 : l0.length ≤ c0) (hr1 : Kd.C (Kd.slice 3 (Kd.int .i64)) w A1 l1.length l1) (hc1 : l1.length ≤ c1) (h : spec_lgAhead.f l0 l1 a2 a3 = some r) :
  Calls Try.prog 58 #[.slice A0 l0.length c0, .slice A1 l1.length c1, .int .i64 a2, .int .i64 a3] w fun e w' => e = .returned (.bool r) ∧ Drawn0 w w' := by
 have HR0 := a_ hr0; have HC0 := a_ hc0; clear hr0 hc0; have HR1 := a_ hr1; have HC1 := a_ hc1; clear hr1 hc1; have H : (if 0 ≤ a2 then (if a2 < (l1.length : Int) then (if 0 < ((rd_L3 l1 a2).length : Int) then (if 1 < ((rd_L3 l1 a2).length : Int) then (if 0 ≤ a3 then (if a3 < (l1.length : Int) then (if 0 < ((rd_L3 l1 a3).length : Int) then (if 1 < ((rd_L3 l1 a3).length : Int) then (if a2 < (l0.length : Int) then (if a3 < (l0.length : Int) then (if (rd l0 a2) = (rd l0 a3) then (if (wrap64 ((rd (rd_L3 l1 a2) 0) - (rd (rd_L3 l1 a2) 1))) = (wrap64 ((rd (rd_L3 l1 a3) 0) - (rd (rd_L3 l1 a3) 1))) then (some (decide ((rd (rd_L3 l1 a2) 0) > (rd (rd_L3 l1 a3) 0)))) else (some (decide ((wrap64 ((rd (rd_L3 l1 a2) 0) - (rd (rd_L3 l1 a2) 1))) > (wrap64 ((rd (rd_L3 l1 a3) 0) - (rd (rd_L3 l1 a3) 1))))))) else (some (decide ((rd l0 a2) > (rd l0 a3))))) else (none)) else (none)) else (none)) else (none)) else (none)) else (none)) else (none)) else (none)) else (none)) else (none)) = some r := h; clear h
 by_cases c5 : 0 ≤ a2
 ·
  rw [if_pos c5] at H; have c5b0 : decide (0 ≤ a2) = true := decide_eq_true c5; clear c5
  by_cases c6 : a2 < (l1.length : Int)
  ·
   rw [if_pos c6] at H; have c6b0 : decide (a2 < (l1.length : Int)) = true := decide_eq_true c6; clear c6
   by_cases c7 : 0 < ((rd_L3 l1 a2).length : Int)
   ·
    rw [if_pos c7] at H; have c7b0 : decide (0 < ((rd_L3 l1 a2).length : Int)) = true := decide_eq_true c7; have c7b1 : decide (0 < (rd_L3 l1 a2).length) = true := decide_eq_true (by omega); clear c7
    by_cases c8 : 1 < ((rd_L3 l1 a2).length : Int)
    ·
     rw [if_pos c8] at H; have c8b0 : decide (1 < ((rd_L3 l1 a2).length : Int)) = true := decide_eq_true c8; have c8b1 : decide (1 < (rd_L3 l1 a2).length) = true := decide_eq_true (by omega); clear c8
     by_cases c9 : 0 ≤ a3
     ·
      rw [if_pos c9] at H; have c9b0 : decide (0 ≤ a3) = true := decide_eq_true c9; clear c9
      by_cases c10 : a3 < (l1.length : Int)
      ·
       rw [if_pos c10] at H; have c10b0 : decide (a3 < (l1.length : Int)) = true := decide_eq_true c10; clear c10
       by_cases c11 : 0 < ((rd_L3 l1 a3).length : Int)
       ·
        rw [if_pos c11] at H; have c11b0 : decide (0 < ((rd_L3 l1 a3).length : Int)) = true := decide_eq_true c11; have c11b1 : decide (0 < (rd_L3 l1 a3).length) = true := decide_eq_true (by omega); clear c11
        by_cases c12 : 1 < ((rd_L3 l1 a3).length : Int)
        ·
         rw [if_pos c12] at H; have c12b0 : decide (1 < ((rd_L3 l1 a3).length : Int)) = true := decide_eq_true c12; have c12b1 : decide (1 < (rd_L3 l1 a3).length) = true := decide_eq_true (by omega); clear c12
         by_cases c13 : a2 < (l0.length : Int)
         ·
          rw [if_pos c13] at H; have c13b0 : decide (a2 < (l0.length : Int)) = true := decide_eq_true c13; clear c13
          by_cases c14 : a3 < (l0.length : Int)
          ·
           rw [if_pos c14] at H; have c14b0 : decide (a3 < (l0.length : Int)) = true := decide_eq_true c14; clear c14
           by_cases c15 : (rd l0 a2) = (rd l0 a3)
           ·
            rw [if_pos c15] at H; have c15b0 : ((rd l0 a2) == (rd l0 a3)) = true := beq_iff_eq.mpr c15; have c15b1 : ((rd l0 a2) != (rd l0 a3)) = false := bne_eq_false_iff_eq.mpr c15; clear c15
            by_cases c16 : (wrap64 ((rd (rd_L3 l1 a2) 0) - (rd (rd_L3 l1 a2) 1))) = (wrap64 ((rd (rd_L3 l1 a3) 0) - (rd (rd_L3 l1 a3) 1)))
            ·
             rw [if_pos c16] at H; have c16b0 : ((wrap64 ((rd (rd_L3 l1 a2) 0) - (rd (rd_L3 l1 a2) 1))) == (wrap64 ((rd (rd_L3 l1 a3) 0) - (rd (rd_L3 l1 a3) 1)))) = true := beq_iff_eq.mpr c16; have c16b1 : ((wrap64 ((rd (rd_L3 l1 a2) 0) - (rd (rd_L3 l1 a2) 1))) != (wrap64 ((rd (rd_L3 l1 a3) 0) - (rd (rd_L3 l1 a3) 1)))) = false := bne_eq_false_iff_eq.mpr c16; clear c16; obtain rfl := Option.some.inj H; have p116 : 0 ≤ (a2 : Int) := of_decide_eq_true (by first | (with_reducible assumption) | assumption); have q116 : a2 < (l1.length : Int) := of_decide_eq_true (by first | (with_reducible assumption) | assumption); obtain ⟨ad116, A116_0, c116_0, e116, hx116_0, hl116_0, hi116_0⟩ := at_L3 HR1.out a2 p116 q116
             cases e116
             have HR116_0 := a_ hi116_0; have HC116_0 := a_ hl116_0; clear hi116_0 hl116_0; replace p116 := eq_true p116; replace q116 := eq_true q116; have p117 : 0 ≤ (0 : Int) := (by omega); have q117 : 0 < ((rd_L3 l1 a2).length : Int) := of_decide_eq_true (by first | (with_reducible assumption) | assumption); obtain ⟨ad117, e117, hx117_0⟩ := Kd.at_int HR116_0.out 0 p117 q117
             cases e117
             have qi117 : (0 < (rd_L3 l1 a2).length) = True := eq_true (by omega)
             (try rw [show ((0 : Int)).toNat = 0 from rfl] at hx117_0)
             (try rw [Addr.add_zero'] at hx117_0)
             replace p117 := eq_true p117; replace q117 := eq_true q117; have p118 : 0 ≤ (a2 : Int) := of_decide_eq_true (by first | (with_reducible assumption) | assumption); have q118 : a2 < (l1.length : Int) := of_decide_eq_true (by first | (with_reducible assumption) | assumption); obtain ⟨ad118, A118_0, c118_0, e118, hx118_0, hl118_0, hi118_0⟩ := at_L3 HR1.out a2 p118 q118; obtain rfl : ad116 = ad118 := (by injection e118); have HR118_0 := a_ hi118_0; have HC118_0 := a_ hl118_0; clear hi118_0 hl118_0; replace p118 := eq_true p118; replace q118 := eq_true q118; have ea_ := Option.some.inj (hx116_0.symm.trans hx118_0)
             injection ea_ with ea_ en_ ec_
             subst ea_; subst ec_; clear en_; have p119 : 0 ≤ (1 : Int) := (by omega); have q119 : 1 < ((rd_L3 l1 a2).length : Int) := of_decide_eq_true (by first | (with_reducible assumption) | assumption); obtain ⟨ad119, e119, hx119_0⟩ := Kd.at_int HR118_0.out 1 p119 q119
             cases e119
             (try simp only [show (1 : Int).toNat = 1 from rfl, Nat.reduceMul, Nat.reduceEqDiff, Go.Addr.add, ↓reduceIte] at hx119_0)
             have qi119 : (1 < (rd_L3 l1 a2).length) = True := eq_true (by omega)
             (try rw [show ((1 : Int)).toNat = 1 from rfl] at hx119_0)
             replace p119 := eq_true p119; replace q119 := eq_true q119; have p120 : 0 ≤ (a3 : Int) := of_decide_eq_true (by first | (with_reducible assumption) | assumption); have q120 : a3 < (l1.length : Int) := of_decide_eq_true (by first | (with_reducible assumption) | assumption); obtain ⟨ad120, A120_0, c120_0, e120, hx120_0, hl120_0, hi120_0⟩ := at_L3 HR1.out a3 p120 q120; obtain rfl : ad116 = ad120 := (by injection e120); have HR120_0 := a_ hi120_0; have HC120_0 := a_ hl120_0; clear hi120_0 hl120_0; replace p120 := eq_true p120; replace q120 := eq_true q120; have p121 : 0 ≤ (0 : Int) := (by omega); have q121 : 0 < ((rd_L3 l1 a3).length : Int) := of_decide_eq_true (by first | (with_reducible assumption) | assumption); obtain ⟨ad121, e121, hx121_0⟩ := Kd.at_int HR120_0.out 0 p121 q121
             cases e121
             have qi121 : (0 < (rd_L3 l1 a3).length) = True := eq_true (by omega)
             (try rw [show ((0 : Int)).toNat = 0 from rfl] at hx121_0)
             (try rw [Addr.add_zero'] at hx121_0)
             replace p121 := eq_true p121; replace q121 := eq_true q121; have p122 : 0 ≤ (a3 : Int) := of_decide_eq_true (by first | (with_reducible assumption) | assumption); have q122 : a3 < (l1.length : Int) := of_decide_eq_true (by first | (with_reducible assumption) | assumption); obtain ⟨ad122, A122_0, c122_0, e122, hx122_0, hl122_0, hi122_0⟩ := at_L3 HR1.out a3 p122 q122; obtain rfl : ad116 = ad122 := (by injection e122); have HR122_0 := a_ hi122_0; have HC122_0 := a_ hl122_0; clear hi122_0 hl122_0; replace p122 := eq_true p122; replace q122 := eq_true q122; have ea_ := Option.some.inj (hx120_0.symm.trans hx122_0)
             injection ea_ with ea_ en_ ec_
             subst ea_; subst ec_; clear en_; have p123 : 0 ≤ (1 : Int) := (by omega); have q123 : 1 < ((rd_L3 l1 a3).length : Int) := of_decide_eq_true (by first | (with_reducible assumption) | assumption); obtain ⟨ad123, e123, hx123_0⟩ := Kd.at_int HR122_0.out 1 p123 q123
             cases e123
             (try simp only [show (1 : Int).toNat = 1 from rfl, Nat.reduceMul, Nat.reduceEqDiff, Go.Addr.add, ↓reduceIte] at hx123_0)
             have qi123 : (1 < (rd_L3 l1 a3).length) = True := eq_true (by omega)
             (try rw [show ((1 : Int)).toNat = 1 from rfl] at hx123_0)
             replace p123 := eq_true p123; replace q123 := eq_true q123; have p124 : 0 ≤ (a2 : Int) := of_decide_eq_true (by first | (with_reducible assumption) | assumption); have q124 : a2 < (l0.length : Int) := of_decide_eq_true (by first | (with_reducible assumption) | assumption); obtain ⟨ad124, e124, hx124_0⟩ := Kd.at_int HR0.out a2 p124 q124
             cases e124
             replace p124 := eq_true p124; replace q124 := eq_true q124; have p125 : 0 ≤ (a3 : Int) := of_decide_eq_true (by first | (with_reducible assumption) | assumption); have q125 : a3 < (l0.length : Int) := of_decide_eq_true (by first | (with_reducible assumption) | assumption); obtain ⟨ad125, e125, hx125_0⟩ := Kd.at_int HR0.out a3 p125 q125; obtain rfl : ad124 = ad125 := (by injection e125); replace p125 := eq_true p125; replace q125 := eq_true q125; have p126 : 0 ≤ (a2 : Int) := of_decide_eq_true (by first | (with_reducible assumption) | assumption); have q126 : a2 < (l1.length : Int) := of_decide_eq_true (by first | (with_reducible assumption) | assumption); obtain ⟨ad126, A126_0, c126_0, e126, hx126_0, hl126_0, hi126_0⟩ := at_L3 HR1.out a2 p126 q126; obtain rfl : ad116 = ad126 := (by injection e126); have HR126_0 := a_ hi126_0; have HC126_0 := a_ hl126_0; clear hi126_0 hl126_0; replace p126 := eq_true p126; replace q126 := eq_true q126; have ea_ := Option.some.inj (hx116_0.symm.trans hx126_0)
             injection ea_ with ea_ en_ ec_
             subst ea_; subst ec_; clear en_; have p127 : 0 ≤ (0 : Int) := (by omega); have q127 : 0 < ((rd_L3 l1 a2).length : Int) := of_decide_eq_true (by first | (with_reducible assumption) | assumption); obtain ⟨ad127, e127, hx127_0⟩ := Kd.at_int HR126_0.out 0 p127 q127
             cases e127
             have qi127 : (0 < (rd_L3 l1 a2).length) = True := eq_true (by omega)
             (try rw [show ((0 : Int)).toNat = 0 from rfl] at hx127_0)
             (try rw [Addr.add_zero'] at hx127_0)
             replace p127 := eq_true p127; replace q127 := eq_true q127; have p128 : 0 ≤ (a3 : Int) := of_decide_eq_true (by first | (with_reducible assumption) | assumption); have q128 : a3 < (l1.length : Int) := of_decide_eq_true (by first | (with_reducible assumption) | assumption); obtain ⟨ad128, A128_0, c128_0, e128, hx128_0, hl128_0, hi128_0⟩ := at_L3 HR1.out a3 p128 q128; obtain rfl : ad116 = ad128 := (by injection e128); have HR128_0 := a_ hi128_0; have HC128_0 := a_ hl128_0; clear hi128_0 hl128_0; replace p128 := eq_true p128; replace q128 := eq_true q128; have ea_ := Option.some.inj (hx120_0.symm.trans hx128_0)
             injection ea_ with ea_ en_ ec_
             subst ea_; subst ec_; clear en_; have p129 : 0 ≤ (0 : Int) := (by omega); have q129 : 0 < ((rd_L3 l1 a3).length : Int) := of_decide_eq_true (by first | (with_reducible assumption) | assumption); obtain ⟨ad129, e129, hx129_0⟩ := Kd.at_int HR128_0.out 0 p129 q129
             cases e129
             have qi129 : (0 < (rd_L3 l1 a3).length) = True := eq_true (by omega)
             (try rw [show ((0 : Int)).toNat = 0 from rfl] at hx129_0)
             (try rw [Addr.add_zero'] at hx129_0)
             replace p129 := eq_true p129; replace q129 := eq_true q129
             go_enter Try.func58, Try.ntmps58
             go_wp2
             repeat (go_quiet (fail); try go_wp2)
             go_ret
             exact ⟨by first | rfl | (simp; done) | (simp [*]; done), by repeat (first | exact Drawn0.refl _ | apply Drawn0.step)⟩
            ·
             rw [if_neg c16] at H; have c16b0 : ((wrap64 ((rd (rd_L3 l1 a2) 0) - (rd (rd_L3 l1 a2) 1))) == (wrap64 ((rd (rd_L3 l1 a3) 0) - (rd (rd_L3 l1 a3) 1)))) = false := beq_eq_false_iff_ne.mpr c16; have c16b1 : ((wrap64 ((rd (rd_L3 l1 a2) 0) - (rd (rd_L3 l1 a2) 1))) != (wrap64 ((rd (rd_L3 l1 a3) 0) - (rd (rd_L3 l1 a3) 1)))) = true := bne_iff_ne.mpr c16; obtain rfl := Option.some.inj H; have p116 : 0 ≤ (a2 : Int) := of_decide_eq_true (by first | (with_reducible assumption) | assumption); have q116 : a2 < (l1.length : Int) := of_decide_eq_true (by first | (with_reducible assumption) | assumption); obtain ⟨ad116, A116_0, c116_0, e116, hx116_0, hl116_0, hi116_0⟩ := at_L3 HR1.out a2 p116 q116
             cases e116
             have HR116_0 := a_ hi116_0; have HC116_0 := a_ hl116_0; clear hi116_0 hl116_0; replace p116 := eq_true p116; replace q116 := eq_true q116; have p117 : 0 ≤ (0 : Int) := (by omega); have q117 : 0 < ((rd_L3 l1 a2).length : Int) := of_decide_eq_true (by first | (with_reducible assumption) | assumption); obtain ⟨ad117, e117, hx117_0⟩ := Kd.at_int HR116_0.out 0 p117 q117
             cases e117
             have qi117 : (0 < (rd_L3 l1 a2).length) = True := eq_true (by omega)
             (try rw [show ((0 : Int)).toNat = 0 from rfl] at hx117_0)
             (try rw [Addr.add_zero'] at hx117_0)
             replace p117 := eq_true p117; replace q117 := eq_true q117; have p118 : 0 ≤ (a2 : Int) := of_decide_eq_true (by first | (with_reducible assumption) | assumption); have q118 : a2 < (l1.length : Int) := of_decide_eq_true (by first | (with_reducible assumption) | assumption); obtain ⟨ad118, A118_0, c118_0, e118, hx118_0, hl118_0, hi118_0⟩ := at_L3 HR1.out a2 p118 q118; obtain rfl : ad116 = ad118 := (by injection e118); have HR118_0 := a_ hi118_0; have HC118_0 := a_ hl118_0; clear hi118_0 hl118_0; replace p118 := eq_true p118; replace q118 := eq_true q118; have ea_ := Option.some.inj (hx116_0.symm.trans hx118_0)
             injection ea_ with ea_ en_ ec_
             subst ea_; subst ec_; clear en_; have p119 : 0 ≤ (1 : Int) := (by omega); have q119 : 1 < ((rd_L3 l1 a2).length : Int) := of_decide_eq_true (by first | (with_reducible assumption) | assumption); obtain ⟨ad119, e119, hx119_0⟩ := Kd.at_int HR118_0.out 1 p119 q119
             cases e119
             (try simp only [show (1 : Int).toNat = 1 from rfl, Nat.reduceMul, Nat.reduceEqDiff, Go.Addr.add, ↓reduceIte] at hx119_0)
             have qi119 : (1 < (rd_L3 l1 a2).length) = True := eq_true (by omega)
             (try rw [show ((1 : Int)).toNat = 1 from rfl] at hx119_0)
             replace p119 := eq_true p119; replace q119 := eq_true q119; have p120 : 0 ≤ (a3 : Int) := of_decide_eq_true (by first | (with_reducible assumption) | assumption); have q120 : a3 < (l1.length : Int) := of_decide_eq_true (by first | (with_reducible assumption) | assumption); obtain ⟨ad120, A120_0, c120_0, e120, hx120_0, hl120_0, hi120_0⟩ := at_L3 HR1.out a3 p120 q120; obtain rfl : ad116 = ad120 := (by injection e120); have HR120_0 := a_ hi120_0; have HC120_0 := a_ hl120_0; clear hi120_0 hl120_0; replace p120 := eq_true p120; replace q120 := eq_true q120; have p121 : 0 ≤ (0 : Int) := (by omega); have q121 : 0 < ((rd_L3 l1 a3).length : Int) := of_decide_eq_true (by first | (with_reducible assumption) | assumption); obtain ⟨ad121, e121, hx121_0⟩ := Kd.at_int HR120_0.out 0 p121 q121
             cases e121
             have qi121 : (0 < (rd_L3 l1 a3).length) = True := eq_true (by omega)
             (try rw [show ((0 : Int)).toNat = 0 from rfl] at hx121_0)
             (try rw [Addr.add_zero'] at hx121_0)
             replace p121 := eq_true p121; replace q121 := eq_true q121; have p122 : 0 ≤ (a3 : Int) := of_decide_eq_true (by first | (with_reducible assumption) | assumption); have q122 : a3 < (l1.length : Int) := of_decide_eq_true (by first | (with_reducible assumption) | assumption); obtain ⟨ad122, A122_0, c122_0, e122, hx122_0, hl122_0, hi122_0⟩ := at_L3 HR1.out a3 p122 q122; obtain rfl : ad116 = ad122 := (by injection e122); have HR122_0 := a_ hi122_0; have HC122_0 := a_ hl122_0; clear hi122_0 hl122_0; replace p122 := eq_true p122; replace q122 := eq_true q122; have ea_ := Option.some.inj (hx120_0.symm.trans hx122_0)
             injection ea_ with ea_ en_ ec_
             subst ea_; subst ec_; clear en_; have p123 : 0 ≤ (1 : Int) := (by omega); have q123 : 1 < ((rd_L3 l1 a3).length : Int) := of_decide_eq_true (by first | (with_reducible assumption) | assumption); obtain ⟨ad123, e123, hx123_0⟩ := Kd.at_int HR122_0.out 1 p123 q123
             cases e123
             (try simp only [show (1 : Int).toNat = 1 from rfl, Nat.reduceMul, Nat.reduceEqDiff, Go.Addr.add, ↓reduceIte] at hx123_0)
             have qi123 : (1 < (rd_L3 l1 a3).length) = True := eq_true (by omega)
             (try rw [show ((1 : Int)).toNat = 1 from rfl] at hx123_0)
             replace p123 := eq_true p123; replace q123 := eq_true q123; have p124 : 0 ≤ (a2 : Int) := of_decide_eq_true (by first | (with_reducible assumption) | assumption); have q124 : a2 < (l0.length : Int) := of_decide_eq_true (by first | (with_reducible assumption) | assumption); obtain ⟨ad124, e124, hx124_0⟩ := Kd.at_int HR0.out a2 p124 q124
             cases e124
             replace p124 := eq_true p124; replace q124 := eq_true q124; have p125 : 0 ≤ (a3 : Int) := of_decide_eq_true (by first | (with_reducible assumption) | assumption); have q125 : a3 < (l0.length : Int) := of_decide_eq_true (by first | (with_reducible assumption) | assumption); obtain ⟨ad125, e125, hx125_0⟩ := Kd.at_int HR0.out a3 p125 q125; obtain rfl : ad124 = ad125 := (by injection e125); replace p125 := eq_true p125; replace q125 := eq_true q125
             go_enter Try.func58, Try.ntmps58
             go_wp2
             repeat (go_quiet (fail); try go_wp2)
             go_ret
             exact ⟨by first | rfl | (simp; done) | (simp [*]; done), by repeat (first | exact Drawn0.refl _ | apply Drawn0.step)⟩
           ·
            rw [if_neg c15] at H; have c15b0 : ((rd l0 a2) == (rd l0 a3)) = false := beq_eq_false_iff_ne.mpr c15; have c15b1 : ((rd l0 a2) != (rd l0 a3)) = true := bne_iff_ne.mpr c15; obtain rfl := Option.some.inj H; have p116 : 0 ≤ (a2 : Int) := of_decide_eq_true (by first | (with_reducible assumption) | assumption); have q116 : a2 < (l1.length : Int) := of_decide_eq_true (by first | (with_reducible assumption) | assumption); obtain ⟨ad116, A116_0, c116_0, e116, hx116_0, hl116_0, hi116_0⟩ := at_L3 HR1.out a2 p116 q116
            cases e116
            have HR116_0 := a_ hi116_0; have HC116_0 := a_ hl116_0; clear hi116_0 hl116_0; replace p116 := eq_true p116; replace q116 := eq_true q116; have p117 : 0 ≤ (0 : Int) := (by omega); have q117 : 0 < ((rd_L3 l1 a2).length : Int) := of_decide_eq_true (by first | (with_reducible assumption) | assumption); obtain ⟨ad117, e117, hx117_0⟩ := Kd.at_int HR116_0.out 0 p117 q117
            cases e117
            have qi117 : (0 < (rd_L3 l1 a2).length) = True := eq_true (by omega)
            (try rw [show ((0 : Int)).toNat = 0 from rfl] at hx117_0)
            (try rw [Addr.add_zero'] at hx117_0)
            replace p117 := eq_true p117; replace q117 := eq_true q117; have p118 : 0 ≤ (a2 : Int) := of_decide_eq_true (by first | (with_reducible assumption) | assumption); have q118 : a2 < (l1.length : Int) := of_decide_eq_true (by first | (with_reducible assumption) | assumption); obtain ⟨ad118, A118_0, c118_0, e118, hx118_0, hl118_0, hi118_0⟩ := at_L3 HR1.out a2 p118 q118; obtain rfl : ad116 = ad118 := (by injection e118); have HR118_0 := a_ hi118_0; have HC118_0 := a_ hl118_0; clear hi118_0 hl118_0; replace p118 := eq_true p118; replace q118 := eq_true q118; have ea_ := Option.some.inj (hx116_0.symm.trans hx118_0)
            injection ea_ with ea_ en_ ec_
            subst ea_; subst ec_; clear en_; have p119 : 0 ≤ (1 : Int) := (by omega); have q119 : 1 < ((rd_L3 l1 a2).length : Int) := of_decide_eq_true (by first | (with_reducible assumption) | assumption); obtain ⟨ad119, e119, hx119_0⟩ := Kd.at_int HR118_0.out 1 p119 q119
            cases e119
            (try simp only [show (1 : Int).toNat = 1 from rfl, Nat.reduceMul, Nat.reduceEqDiff, Go.Addr.add, ↓reduceIte] at hx119_0)
            have qi119 : (1 < (rd_L3 l1 a2).length) = True := eq_true (by omega)
            (try rw [show ((1 : Int)).toNat = 1 from rfl] at hx119_0)
            replace p119 := eq_true p119; replace q119 := eq_true q119; have p120 : 0 ≤ (a3 : Int) := of_decide_eq_true (by first | (with_reducible assumption) | assumption); have q120 : a3 < (l1.length : Int) := of_decide_eq_true (by first | (with_reducible assumption) | assumption); obtain ⟨ad120, A120_0, c120_0, e120, hx120_0, hl120_0, hi120_0⟩ := at_L3 HR1.out a3 p120 q120; obtain rfl : ad116 = ad120 := (by injection e120); have HR120_0 := a_ hi120_0; have HC120_0 := a_ hl120_0; clear hi120_0 hl120_0; replace p120 := eq_true p120; replace q120 := eq_true q120; have p121 : 0 ≤ (0 : Int) := (by omega); have q121 : 0 < ((rd_L3 l1 a3).length : Int) := of_decide_eq_true (by first | (with_reducible assumption) | assumption); obtain ⟨ad121, e121, hx121_0⟩ := Kd.at_int HR120_0.out 0 p121 q121
            cases e121
            have qi121 : (0 < (rd_L3 l1 a3).length) = True := eq_true (by omega)
            (try rw [show ((0 : Int)).toNat = 0 from rfl] at hx121_0)
            (try rw [Addr.add_zero'] at hx121_0)
            replace p121 := eq_true p121; replace q121 := eq_true q121; have p122 : 0 ≤ (a3 : Int) := of_decide_eq_true (by first | (with_reducible assumption) | assumption); have q122 : a3 < (l1.length : Int) := of_decide_eq_true (by first | (with_reducible assumption) | assumption); obtain ⟨ad122, A122_0, c122_0, e122, hx122_0, hl122_0, hi122_0⟩ := at_L3 HR1.out a3 p122 q122; obtain rfl : ad116 = ad122 := (by injection e122); have HR122_0 := a_ hi122_0; have HC122_0 := a_ hl122_0; clear hi122_0 hl122_0; replace p122 := eq_true p122; replace q122 := eq_true q122; have ea_ := Option.some.inj (hx120_0.symm.trans hx122_0)
            injection ea_ with ea_ en_ ec_
            subst ea_; subst ec_; clear en_; have p123 : 0 ≤ (1 : Int) := (by omega); have q123 : 1 < ((rd_L3 l1 a3).length : Int) := of_decide_eq_true (by first | (with_reducible assumption) | assumption); obtain ⟨ad123, e123, hx123_0⟩ := Kd.at_int HR122_0.out 1 p123 q123
            cases e123
            (try simp only [show (1 : Int).toNat = 1 from rfl, Nat.reduceMul, Nat.reduceEqDiff, Go.Addr.add, ↓reduceIte] at hx123_0)
            have qi123 : (1 < (rd_L3 l1 a3).length) = True := eq_true (by omega)
            (try rw [show ((1 : Int)).toNat = 1 from rfl] at hx123_0)
            replace p123 := eq_true p123; replace q123 := eq_true q123; have p124 : 0 ≤ (a2 : Int) := of_decide_eq_true (by first | (with_reducible assumption) | assumption); have q124 : a2 < (l0.length : Int) := of_decide_eq_true (by first | (with_reducible assumption) | assumption); obtain ⟨ad124, e124, hx124_0⟩ := Kd.at_int HR0.out a2 p124 q124
            cases e124
            replace p124 := eq_true p124; replace q124 := eq_true q124; have p125 : 0 ≤ (a3 : Int) := of_decide_eq_true (by first | (with_reducible assumption) | assumption); have q125 : a3 < (l0.length : Int) := of_decide_eq_true (by first | (with_reducible assumption) | assumption); obtain ⟨ad125, e125, hx125_0⟩ := Kd.at_int HR0.out a3 p125 q125; obtain rfl : ad124 = ad125 := (by injection e125); replace p125 := eq_true p125; replace q125 := eq_true q125; have p130 : 0 ≤ (a2 : Int) := of_decide_eq_true (by first | (with_reducible assumption) | assumption); have q130 : a2 < (l0.length : Int) := of_decide_eq_true (by first | (with_reducible assumption) | assumption); obtain ⟨ad130, e130, hx130_0⟩ := Kd.at_int HR0.out a2 p130 q130; obtain rfl : ad124 = ad130 := (by injection e130); replace p130 := eq_true p130; replace q130 := eq_true q130; have p131 : 0 ≤ (a3 : Int) := of_decide_eq_true (by first | (with_reducible assumption) | assumption); have q131 : a3 < (l0.length : Int) := of_decide_eq_true (by first | (with_reducible assumption) | assumption); obtain ⟨ad131, e131, hx131_0⟩ := Kd.at_int HR0.out a3 p131 q131; obtain rfl : ad124 = ad131 := (by injection e131); replace p131 := eq_true p131; replace q131 := eq_true q131
            go_enter Try.func58, Try.ntmps58
            go_wp2
            repeat (go_quiet (fail); try go_wp2)
            go_ret
            exact ⟨by first | rfl | (simp; done) | (simp [*]; done), by repeat (first | exact Drawn0.refl _ | apply Drawn0.step)⟩
          ·
           rw [if_neg c14] at H
           exact absurd H (by simp)
         ·
          rw [if_neg c13] at H
          exact absurd H (by simp)
        ·
         rw [if_neg c12] at H
         exact absurd H (by simp)
       ·
        rw [if_neg c11] at H
        exact absurd H (by simp)
      ·
       rw [if_neg c10] at H
       exact absurd H (by simp)
     ·
      rw [if_neg c9] at H
      exact absurd H (by simp)
    ·
     rw [if_neg c8] at H
     exact absurd H (by simp)
   ·
    rw [if_neg c7] at H
    exact absurd H (by simp)
  ·
   rw [if_neg c6] at H
   exact absurd H (by simp)
 ·
  rw [if_neg c5] at H
  exact absurd H (by simp)

end Go.Proofs.Ytmijfimjlenmpaa.QFnExactMostPoints
