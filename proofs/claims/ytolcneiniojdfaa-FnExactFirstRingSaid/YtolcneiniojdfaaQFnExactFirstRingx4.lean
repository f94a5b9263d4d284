-- Written by a program of this session (wip/tools/gprint.sh) out of the translation, with some contracts given by hand.
import Derived.Test.YtolcneiniojdfaaQFnExactFirstRingx0
import Derived.Test.YtolcneiniojdfaaGLFnExactFirstRing
import Derived.Test.YtolcneiniojdfaaGBFnExactFirstRing
namespace Go.Proofs.Ytolcneiniojdfaa.QFnExactFirstRing
open Go.RowKit Go.Proofs.YtolcneiniojdfaaW.PrintWords Go.Proofs.YtolcneiniojdfaaW.PrintLast Go.Proofs.YtolcneiniojdfaaW.PrintMore Go.Proofs.Ytolcneiniojdfaa.GMap
attribute [local go_sem] max2_int min2_int max_two min_two max_three min_three max_four min_four   -- for this text's walks alone
set_option linter.unusedVariables false
set_option linter.unusedSimpArgs false

/-! ### impl_FirstRing: function 41 -/
mutual
def impl_FirstRing.l0 : Nat → List (S51) → Int → Int → Int → Int → List (S51) → Option (List Int × Bool)
  | 0, _, _, _, _, _, _ => none
  | k + 1, x15, x16, x17, x165000, x165001, x165002 => if x17 < x16 then (if 0 ≤ x17 then (if x17 < (x15.length : Int) then (if ((rd_T51 x15 x17).f2) > ((rd_T51 x15 x17).f3) then ((beatPut.f ((rd_T51 x15 x17).f0) ((rd_T51 x15 x17).f1)).bind fun t168 => (if ((rd_T51 x15 x17).f2) < ((rd_T51 x15 x17).f3) then ((beatPut.f ((rd_T51 x15 x17).f1) ((rd_T51 x15 x17).f0)).bind fun t169 => (impl_FirstRing.l0 k x15 x16 (wrap64 (x17 + 1)) x165000 x165001 x165002)) else (impl_FirstRing.l0 k x15 x16 (wrap64 (x17 + 1)) x165000 x165001 x165002))) else (if ((rd_T51 x15 x17).f2) < ((rd_T51 x15 x17).f3) then ((beatPut.f ((rd_T51 x15 x17).f1) ((rd_T51 x15 x17).f0)).bind fun t170 => (impl_FirstRing.l0 k x15 x16 (wrap64 (x17 + 1)) x165000 x165001 x165002)) else (impl_FirstRing.l0 k x15 x16 (wrap64 (x17 + 1)) x165000 x165001 x165002))) else (none)) else (none)) else (impl_FirstRing.l1 k x15 x165000 0 x165000 x165001 x165002)
def impl_FirstRing.l1 : Nat → List (S51) → Int → Int → Int → Int → List (S51) → Option (List Int × Bool)
  | 0, _, _, _, _, _, _ => none
  | k + 1, x15, x45, x46, x165000, x165001, x165002 => if x46 < x45 then (impl_FirstRing.l2 k x46 (wrap64 (x46 + 1)) x15 x45 x46 x165000 x165001 x165002) else (some (([] : List Int), false))
def impl_FirstRing.l2 : Nat → Int → Int → List (S51) → Int → Int → Int → Int → List (S51) → Option (List Int × Bool)
  | 0, _, _, _, _, _, _, _, _ => none
  | k + 1, x7, x8, x15, x45, x46, x165000, x165001, x165002 => if x8 < x165000 then (impl_FirstRing.l3 k x7 x8 (wrap64 (x7 + 1)) x15 x45 x46 x165000 x165001 x165002) else (impl_FirstRing.l1 k x15 x45 (wrap64 (x46 + 1)) x165000 x165001 x165002)
def impl_FirstRing.l3 : Nat → Int → Int → Int → List (S51) → Int → Int → Int → Int → List (S51) → Option (List Int × Bool)
  | 0, _, _, _, _, _, _, _, _, _ => none
  | k + 1, x7, x8, x9, x15, x45, x46, x165000, x165001, x165002 => if x9 < x165000 then (if x8 = x9 then (impl_FirstRing.l3 k x7 x8 (wrap64 (x9 + 1)) x15 x45 x46 x165000 x165001 x165002) else ((beatHas.f x15 x7 x8).bind fun t171 => (if t171 = true then ((beatHas.f x15 x8 x9).bind fun t172 => (if t172 = true then ((beatHas.f x15 x9 x7).bind fun t173 => (if t173 = true then (some ((([x7, x8, x9] : List Int)), true)) else (impl_FirstRing.l3 k x7 x8 (wrap64 (x9 + 1)) x15 x45 x46 x165000 x165001 x165002))) else (impl_FirstRing.l3 k x7 x8 (wrap64 (x9 + 1)) x15 x45 x46 x165000 x165001 x165002))) else (impl_FirstRing.l3 k x7 x8 (wrap64 (x9 + 1)) x15 x45 x46 x165000 x165001 x165002)))) else (impl_FirstRing.l2 k x7 (wrap64 (x8 + 1)) x15 x45 x46 x165000 x165001 x165002)
end
def impl_FirstRing.f (k : Nat) (a0_0 : Int) (a0_1 : Int) (l0_2 : List (S51)) : Option (List Int × Bool) := (impl_IsLeague.f k a0_0 a0_1 l0_2).bind fun t165 => (if t165 = true then (impl_FirstRing.l0 k l0_2 (l0_2.length : Int) 0 a0_0 a0_1 l0_2) else (some (([] : List Int), false)))
theorem impl_FirstRing.mono_l : ∀ k, (∀ y0 y1 y2 y3 y4 y5, LeO (impl_FirstRing.l0 k y0 y1 y2 y3 y4 y5) (impl_FirstRing.l0 (k + 1) y0 y1 y2 y3 y4 y5)) ∧ (∀ y0 y1 y2 y3 y4 y5, LeO (impl_FirstRing.l1 k y0 y1 y2 y3 y4 y5) (impl_FirstRing.l1 (k + 1) y0 y1 y2 y3 y4 y5)) ∧ (∀ y0 y1 y2 y3 y4 y5 y6 y7, LeO (impl_FirstRing.l2 k y0 y1 y2 y3 y4 y5 y6 y7) (impl_FirstRing.l2 (k + 1) y0 y1 y2 y3 y4 y5 y6 y7)) ∧ (∀ y0 y1 y2 y3 y4 y5 y6 y7 y8, LeO (impl_FirstRing.l3 k y0 y1 y2 y3 y4 y5 y6 y7 y8) (impl_FirstRing.l3 (k + 1) y0 y1 y2 y3 y4 y5 y6 y7 y8))
  | 0 => ⟨fun _ _ _ _ _ _ r h => by simp [impl_FirstRing.l0] at h, fun _ _ _ _ _ _ r h => by simp [impl_FirstRing.l1] at h, fun _ _ _ _ _ _ _ _ r h => by simp [impl_FirstRing.l2] at h, fun _ _ _ _ _ _ _ _ _ r h => by simp [impl_FirstRing.l3] at h⟩
  | k + 1 => by
    obtain ⟨ih0, ih1, ih2, ih3⟩ := impl_FirstRing.mono_l k
    refine ⟨?_, ?_, ?_, ?_⟩
    · intro y0 y1 y2 y3 y4 y5
      unfold impl_FirstRing.l0
      repeat' first
      | (with_reducible exact ih0 _ _ _ _ _ _)
      | (with_reducible exact ih1 _ _ _ _ _ _)
      | (with_reducible exact ih2 _ _ _ _ _ _ _ _)
      | (with_reducible exact ih3 _ _ _ _ _ _ _ _ _)
      | (with_reducible exact impl_IsLeague.mono _ _ _ _)
      | (with_reducible exact LeO.refl _)
      | (with_reducible exact LeO.none _)
      | (with_reducible refine LeO.ite ?_ ?_)
      | (with_reducible refine LeO.bind ?_ (fun _ => ?_))
      | exact ih0 _ _ _ _ _ _
      | exact ih1 _ _ _ _ _ _
      | exact ih2 _ _ _ _ _ _ _ _
      | exact ih3 _ _ _ _ _ _ _ _ _
      | exact impl_IsLeague.mono _ _ _ _
      | exact LeO.none _
      | refine LeO.ite ?_ ?_
      | refine LeO.bind ?_ (fun _ => ?_)
    · intro y0 y1 y2 y3 y4 y5
      unfold impl_FirstRing.l1
      repeat' first
      | (with_reducible exact ih0 _ _ _ _ _ _)
      | (with_reducible exact ih1 _ _ _ _ _ _)
      | (with_reducible exact ih2 _ _ _ _ _ _ _ _)
      | (with_reducible exact ih3 _ _ _ _ _ _ _ _ _)
      | (with_reducible exact impl_IsLeague.mono _ _ _ _)
      | (with_reducible exact LeO.refl _)
      | (with_reducible exact LeO.none _)
      | (with_reducible refine LeO.ite ?_ ?_)
      | (with_reducible refine LeO.bind ?_ (fun _ => ?_))
      | exact ih0 _ _ _ _ _ _
      | exact ih1 _ _ _ _ _ _
      | exact ih2 _ _ _ _ _ _ _ _
      | exact ih3 _ _ _ _ _ _ _ _ _
      | exact impl_IsLeague.mono _ _ _ _
      | exact LeO.none _
      | refine LeO.ite ?_ ?_
      | refine LeO.bind ?_ (fun _ => ?_)
    · intro y0 y1 y2 y3 y4 y5 y6 y7
      unfold impl_FirstRing.l2
      repeat' first
      | (with_reducible exact ih0 _ _ _ _ _ _)
      | (with_reducible exact ih1 _ _ _ _ _ _)
      | (with_reducible exact ih2 _ _ _ _ _ _ _ _)
      | (with_reducible exact ih3 _ _ _ _ _ _ _ _ _)
      | (with_reducible exact impl_IsLeague.mono _ _ _ _)
      | (with_reducible exact LeO.refl _)
      | (with_reducible exact LeO.none _)
      | (with_reducible refine LeO.ite ?_ ?_)
      | (with_reducible refine LeO.bind ?_ (fun _ => ?_))
      | exact ih0 _ _ _ _ _ _
      | exact ih1 _ _ _ _ _ _
      | exact ih2 _ _ _ _ _ _ _ _
      | exact ih3 _ _ _ _ _ _ _ _ _
      | exact impl_IsLeague.mono _ _ _ _
      | exact LeO.none _
      | refine LeO.ite ?_ ?_
      | refine LeO.bind ?_ (fun _ => ?_)
    · intro y0 y1 y2 y3 y4 y5 y6 y7 y8
      unfold impl_FirstRing.l3
      repeat' first
      | (with_reducible exact ih0 _ _ _ _ _ _)
      | (with_reducible exact ih1 _ _ _ _ _ _)
      | (with_reducible exact ih2 _ _ _ _ _ _ _ _)
      | (with_reducible exact ih3 _ _ _ _ _ _ _ _ _)
      | (with_reducible exact impl_IsLeague.mono _ _ _ _)
      | (with_reducible exact LeO.refl _)
      | (with_reducible exact LeO.none _)
      | (with_reducible refine LeO.ite ?_ ?_)
      | (with_reducible refine LeO.bind ?_ (fun _ => ?_))
      | exact ih0 _ _ _ _ _ _
      | exact ih1 _ _ _ _ _ _
      | exact ih2 _ _ _ _ _ _ _ _
      | exact ih3 _ _ _ _ _ _ _ _ _
      | exact impl_IsLeague.mono _ _ _ _
      | exact LeO.none _
      | refine LeO.ite ?_ ?_
      | refine LeO.bind ?_ (fun _ => ?_)
theorem impl_FirstRing.mono : ∀ a0 a1 a2 k, LeO (impl_FirstRing.f k a0 a1 a2) (impl_FirstRing.f (k + 1) a0 a1 a2) := by
  intro a0 a1 a2 k
  obtain ⟨ih0, ih1, ih2, ih3⟩ := impl_FirstRing.mono_l k
  unfold impl_FirstRing.f
  repeat' first
      | (with_reducible exact ih0 _ _ _ _ _ _)
      | (with_reducible exact ih1 _ _ _ _ _ _)
      | (with_reducible exact ih2 _ _ _ _ _ _ _ _)
      | (with_reducible exact ih3 _ _ _ _ _ _ _ _ _)
      | (with_reducible exact impl_IsLeague.mono _ _ _ _)
      | (with_reducible exact LeO.refl _)
      | (with_reducible exact LeO.none _)
      | (with_reducible refine LeO.ite ?_ ?_)
      | (with_reducible refine LeO.bind ?_ (fun _ => ?_))
      | exact ih0 _ _ _ _ _ _
      | exact ih1 _ _ _ _ _ _
      | exact ih2 _ _ _ _ _ _ _ _
      | exact ih3 _ _ _ _ _ _ _ _ _
      | exact impl_IsLeague.mono _ _ _ _
      | exact LeO.none _
      | refine LeO.ite ?_ ?_
      | refine LeO.bind ?_ (fun _ => ?_)
set_option maxHeartbeats 8000000 in
set_option maxRecDepth 100000 in
theorem impl_FirstRing.calls (k : Nat) (a0_0 : Int) (a0_1 : Int) (A0_2 : Option Addr) (c0_2 : Nat) (l0_2 : List (S51)) (r1 : List Int) (r2 : Bool) (w : World) (hr0_2 : Kd.C k51 w A0_2 l0_2.length l0_2) (hc0_2 : l0_2.length ≤ c0_2) (h : impl_FirstRing.f k a0_0 a0_1 l0_2 = some (r1, r2)) :
    Calls Try.prog 41 #[.agg #[.int .i64 a0_0, .int .i64 a0_1, .slice A0_2 l0_2.length c0_2]] w fun e w' => ∃ v0_ : Value, e = .returned (.tuple #[v0_, .bool r2]) ∧ Kd.R (Kd.int .i64) 3 w' w.heap.size (fun _ => True) v0_ r1 ∧ Below w.heap.size w w' := by
  have hu35 := Try.underlying35
  have hu51 := Try.underlying51
  have hu71 := Try.underlying71
  have HR0_2 := Aside0.mk hr0_2
  have HC0_2 := Aside0.mk hc0_2
  clear hr0_2 hc0_2
  have HB := Aside0.mk (Below.refl w.heap.size w)
  have H : ((impl_IsLeague.f k a0_0 a0_1 l0_2).bind fun t165 => (if t165 = true then (impl_FirstRing.l0 k l0_2 (l0_2.length : Int) 0 a0_0 a0_1 l0_2) else (some (([] : List Int), false)))) = some (r1, r2) := h
  clear h
  replace H := Option.bind_eq_some_iff.mp H
  obtain ⟨t165, A20, H⟩ := H
  replace H : (if t165 = true then (impl_FirstRing.l0 k l0_2 (l0_2.length : Int) 0 a0_0 a0_1 l0_2) else (some (([] : List Int), false))) = some (r1, r2) := H
  have A2 := Aside0.mk A20
  clear A20
  by_cases c3 : t165 = true
  · subst c3
    have H1 : (impl_FirstRing.l0 k l0_2 (l0_2.length : Int) 0 a0_0 a0_1 l0_2) = some (r1, r2) := by rw [if_pos rfl] at H; exact H
    clear H
    have H := H1
    clear H1
    have H' := Aside0.mk H
    clear H
    go_enter Try.func41, Try.ntmps41
    go_wp2_with (first | ((with_reducible refine gate_dst (N := 1) rfl ?_); refine box_event ?hg (N := 1) ?hd (cs := #[.int .i64 a0_0, .int .i64 a0_1, .slice A0_2 l0_2.length c0_2]) (t := 35) ?hr ?_; (case hd => rfl); (case hg => rfl); (case hr => first | (go_simp; done) | (go_simp; rfl)); intro gb164 hg w4 hbox hb; have n0_ := Aside0.mk (below_step (by repeat (first | (with_reducible first | exact HB.out | apply below_alloc | apply pw_below_drewN | apply below_drew1) | exact HB.out)) hb); have n1_ := Aside0.mk (hbox); have n2_ := Aside0.mk ((by rw [hg]; exact (below_size (by repeat (first | (with_reducible first | exact HB.out | apply below_alloc | apply pw_below_drewN | apply below_drew1) | exact HB.out))) : w.heap.size ≤ gb164)); have n3_ := Aside0.mk ((by rw [hg]; exact (below_size (by repeat (first | (with_reducible first | exact HB.out | apply below_alloc | apply pw_below_drewN | apply below_drew1) | exact HB.out))) : w.heap.size ≤ gb164)); clear HB; have HB := n0_; have BK164 := n1_; have GW164 := n2_; have GE164 := n3_; clear n0_ n1_ n2_ n3_; clear hb hbox hg; have hcz5_0 : w4.cell? ⟨gb164, 0, none⟩ = some (.int .i64 a0_0) := (blk_cell BK164.out 0).trans rfl; have hcz5_1 : w4.cell? ⟨gb164, 1, none⟩ = some (.int .i64 a0_1) := (blk_cell BK164.out 1).trans rfl; have hcz5_2 : w4.cell? ⟨gb164, 2, none⟩ = some (.slice A0_2 l0_2.length c0_2) := (blk_cell BK164.out 2).trans rfl; have hfz5_0 := blk_frozen BK164.out 0; have hfz5_1 := blk_frozen BK164.out 1; have hfz5_2 := blk_frozen BK164.out 2) | ((with_reducible refine gate_callee (f := 23) rfl ?_); refine goesL_ (some 11) rfl rfl Try.func23 (by kernel_rfl) rfl #[.agg #[.int .i64 a0_0, .int .i64 a0_1, .slice A0_2 l0_2.length c0_2]] rfl (by (try simp only [List.map_toArray, List.map_cons, List.map_nil]); first | done | rfl | (simp only [List.length_drop, List.length_take]; rfl)) ?_; (with_reducible refine (impl_IsLeague.calls k a0_0 a0_1 _ _ l0_2 true _ ?side1 ?side2 A2.out).mono ?_); (case side1 => repeat (first | exact (Kd.C_below HR0_2.out HB.out) | (with_reducible refine Kd.C_alloc ?_ _) | (with_reducible refine Kd.C_drewN ?_ _) | (with_reducible refine Kd.C_drew ?_))); (case side2 => exact HC0_2.out); rintro e w6 ⟨rfl, hb⟩; refine ⟨_, rfl, ?_⟩; have n0_ := Aside0.mk (blk_below (g := gb164) (o := .cells #[.int .i64 a0_0, .int .i64 a0_1, .slice A0_2 l0_2.length c0_2] 35 (0, 0)) (by (with_reducible repeat (first | refine blk_drewN ?_ _ | refine blk_drew ?_ | refine blk_alloc ?_ _)); exact BK164.out) hb); have n1_ := Aside0.mk (below_step (by repeat (first | (with_reducible first | exact HB.out | apply below_alloc | apply pw_below_drewN | apply below_drew1 | refine below_set ?_ GE164.out) | exact HB.out)) hb); clear BK164; clear HB; have BK164 := n0_; have HB := n1_; clear n0_ n1_; (try clear hb); (try clear hb2); (try clear hk); (try clear hi); have hcz7_0 : w6.cell? ⟨gb164, 0, none⟩ = some (.int .i64 a0_0) := (blk_cell BK164.out 0).trans rfl; have hcz7_1 : w6.cell? ⟨gb164, 1, none⟩ = some (.int .i64 a0_1) := (blk_cell BK164.out 1).trans rfl; have hcz7_2 : w6.cell? ⟨gb164, 2, none⟩ = some (.slice A0_2 l0_2.length c0_2) := (blk_cell BK164.out 2).trans rfl; have hfz7_0 := blk_frozen BK164.out 0; have hfz7_1 := blk_frozen BK164.out 1; have hfz7_2 := blk_frozen BK164.out 2) | ((with_reducible refine gate_dst (N := 13) rfl ?_); refine map_event ?hg (N := 13) ?hd ?hr ?_; (case hd => rfl); (case hg => rfl); (case hr => first | rfl | (go_simp; done) | (go_simp; rfl)); intro bm hg wm hmap hb; have n0_ := Aside0.mk (blk_below (g := gb164) (o := .cells #[.int .i64 a0_0, .int .i64 a0_1, .slice A0_2 l0_2.length c0_2] 35 (0, 0)) (by (with_reducible repeat (first | refine blk_drewN ?_ _ | refine blk_drew ?_ | refine blk_alloc ?_ _)); exact BK164.out) hb); have n2_ := Aside0.mk ((by rw [hg]; exact below_size (by repeat (first | (with_reducible first | exact HB.out | apply below_alloc | apply pw_below_drewN | apply below_drew1) | exact HB.out))) : w.heap.size ≤ bm); have n1_ := Aside0.mk (below_step (by repeat (first | (with_reducible first | exact HB.out | apply below_alloc | apply pw_below_drewN | apply below_drew1) | exact HB.out)) hb); have HM := Aside0.mk hmap; clear BK164 HB; have BK164 := n0_; have HB := n1_; have GM := n2_; clear n0_ n1_ n2_ hb hmap hg; have hcz99_0 : wm.cell? ⟨gb164, 0, none⟩ = some (.int .i64 a0_0) := (blk_cell BK164.out 0).trans rfl; have hcz99_1 : wm.cell? ⟨gb164, 1, none⟩ = some (.int .i64 a0_1) := (blk_cell BK164.out 1).trans rfl; have hcz99_2 : wm.cell? ⟨gb164, 2, none⟩ = some (.slice A0_2 l0_2.length c0_2) := (blk_cell BK164.out 2).trans rfl))
    go_loopg [17] k (fun kq v17 w' => ∃ (x17_1 : Int), v17 = .int .i64 x17_1 ∧ Aside0 (impl_FirstRing.l0 kq l0_2 (l0_2.length : Int) x17_1 a0_0 a0_1 l0_2 = some (r1, r2)) ∧ Aside0 (kq ≤ k) ∧ Aside0 (w'.heap[gb164]? = some (.cells #[.int .i64 a0_0, .int .i64 a0_1, (.slice A0_2 l0_2.length c0_2)] 35 (0, 0))) ∧ Aside0 (Below w.heap.size w w') ∧ Aside0 (HasSet w' bm (beatL l0_2 x17_1)))
    case atStart => exact ⟨(0), (by first | rfl | (simp; done) | (simp [*]; done)), H', ⟨Nat.le_refl _⟩, ⟨by (with_reducible repeat (first | refine blk_drewN ?_ _ | refine blk_drew ?_ | refine blk_alloc ?_ _)); exact BK164.out⟩, ⟨by repeat (first | (with_reducible first | exact HB.out | apply below_alloc | apply pw_below_drewN | apply below_drew1 | refine below_set ?_ GE164.out) | exact HB.out)⟩, ⟨by rw [beatL_zero]; exact HM.out⟩⟩
    case round =>
      try clear HM
      try clear hcz99_0
      try clear hcz99_1
      try clear hcz99_2
      clear H'
      try clear c2
      try clear p2
      try clear c3
      try clear c4
      try clear hcz5_0
      try clear hcz5_1
      try clear hcz5_2
      try clear hcz7_0
      try clear hcz7_1
      try clear hcz7_2
      try clear hfz5_0
      try clear hfz5_1
      try clear hfz5_2
      try clear hfz7_0
      try clear hfz7_1
      try clear hfz7_2
      obtain ⟨x17_1, rfl, HA, HK1, BK164, HB, HM⟩ := hrel
      cases gk with
      | zero => exact absurd HA.out (by simp [impl_FirstRing.l0])
      | succ k1 =>
        have H := HA.out
        clear HA
        simp only [impl_FirstRing.l0] at H
        by_cases c8 : x17_1 < (l0_2.length : Int)
        · rw [if_pos c8] at H
          have c8b0 : decide (x17_1 < (l0_2.length : Int)) = true := decide_eq_true c8
          clear c8
          by_cases c9 : 0 ≤ x17_1
          · rw [if_pos c9] at H
            have c9b0 : decide (0 ≤ x17_1) = true := decide_eq_true c9
            clear c9
            by_cases c10 : x17_1 < (l0_2.length : Int)
            · rw [if_pos c10] at H
              have c10b0 : decide (x17_1 < (l0_2.length : Int)) = true := decide_eq_true c10
              clear c10
              by_cases c11 : ((rd_T51 l0_2 x17_1).f2) > ((rd_T51 l0_2 x17_1).f3)
              · rw [if_pos c11] at H
                have c11b0 : decide (((rd_T51 l0_2 x17_1).f3) < ((rd_T51 l0_2 x17_1).f2)) = true := decide_eq_true c11
                clear c11
                replace H := Option.bind_eq_some_iff.mp H
                obtain ⟨t168, A120, H⟩ := H
                replace H : (if ((rd_T51 l0_2 x17_1).f2) < ((rd_T51 l0_2 x17_1).f3) then ((beatPut.f ((rd_T51 l0_2 x17_1).f1) ((rd_T51 l0_2 x17_1).f0)).bind fun t169 => (impl_FirstRing.l0 k1 l0_2 (l0_2.length : Int) (wrap64 (x17_1 + 1)) a0_0 a0_1 l0_2)) else (impl_FirstRing.l0 k1 l0_2 (l0_2.length : Int) (wrap64 (x17_1 + 1)) a0_0 a0_1 l0_2)) = some (r1, r2) := H
                have A12 := Aside0.mk A120
                clear A120
                by_cases c13 : ((rd_T51 l0_2 x17_1).f2) < ((rd_T51 l0_2 x17_1).f3)
                · rw [if_pos c13] at H
                  have c13b0 : decide (((rd_T51 l0_2 x17_1).f2) < ((rd_T51 l0_2 x17_1).f3)) = true := decide_eq_true c13
                  clear c13
                  exfalso
                  have h1_ := of_decide_eq_true c11b0
                  have h2_ := of_decide_eq_true c13b0
                  omega
                · rw [if_neg c13] at H
                  have c13b0 : decide (((rd_T51 l0_2 x17_1).f2) < ((rd_T51 l0_2 x17_1).f3)) = false := decide_eq_false c13
                  clear c13
                  have H' := Aside0.mk H
                  clear H
                  have p166 : 0 ≤ (x17_1 : Int) := of_decide_eq_true (by first | (with_reducible assumption) | assumption)
                  have q166 : x17_1 < (l0_2.length : Int) := of_decide_eq_true (by first | (with_reducible assumption) | assumption)
                  obtain ⟨ad166, e166, hx166_0, hx166_1, hx166_2, hx166_3⟩ := at_T51 HR0_2.out x17_1 p166 q166
                  cases e166
                  replace hx166_0 := (HB.out.cell (World.block_lt_of_cell? w _ hx166_0)).trans hx166_0
                  replace hx166_1 := (HB.out.cell (World.block_lt_of_cell? w _ hx166_1)).trans hx166_1
                  replace hx166_2 := (HB.out.cell (World.block_lt_of_cell? w _ hx166_2)).trans hx166_2
                  replace hx166_3 := (HB.out.cell (World.block_lt_of_cell? w _ hx166_3)).trans hx166_3
                  have hroom : Aside0 ((beatL l0_2 x17_1).length < maxLen) := ⟨beatL_room HR0_2.out p166 q166⟩
                  have hstep := Aside0.mk (beatL_gt HR0_2.out p166 q166 c11b0)
                  replace p166 := eq_true p166
                  replace q166 := eq_true q166
                  go_wp2_with (first | ((with_reducible refine gate_dst (N := 6) rfl ?_); refine box_event ?hg (N := 6) ?hd (cs := #[.int .i64 0, .int .i64 0, .int .i64 0, .int .i64 0]) (t := 51) ?hr ?_; (case hd => rfl); (case hg => rfl); (case hr => first | (go_simp; done) | (go_simp; rfl)); intro gb167 hg w21 hbox hb; have nm_ := Aside0.mk (HasSet.below (b := bm) (s := beatL l0_2 x17_1) (by (repeat (first | (with_reducible exact HM.out) | (with_reducible refine HasSet.drewN ?_ _) | (with_reducible refine HasSet.drew ?_) | (with_reducible refine HasSet.alloc ?_ _)))) hb); have NM167 := Aside0.mk ((by rw [hg]; exact Nat.ne_of_lt (HasSet.lt (b := bm) (s := beatL l0_2 x17_1) (by (repeat (first | (with_reducible exact HM.out) | (with_reducible refine HasSet.drewN ?_ _) | (with_reducible refine HasSet.drew ?_) | (with_reducible refine HasSet.alloc ?_ _)))))) : bm ≠ gb167); clear HM; have HM := nm_; clear nm_; have n0_ := Aside0.mk (blk_below (g := gb164) (o := .cells #[.int .i64 a0_0, .int .i64 a0_1, .slice (some ad166) l0_2.length c0_2] 35 (0, 0)) (by (with_reducible repeat (first | refine blk_drewN ?_ _ | refine blk_drew ?_ | refine blk_alloc ?_ _)); exact BK164.out) hb); have n1_ := Aside0.mk (below_step (by repeat (first | (with_reducible first | exact HB.out | apply below_alloc | apply pw_below_drewN | apply below_drew1 | refine below_set ?_ GE164.out) | exact HB.out)) hb); have n2_ := Aside0.mk (hbox); have n3_ := Aside0.mk ((by rw [hg]; exact (below_size (by repeat (first | (with_reducible first | exact HB.out | apply below_alloc | apply pw_below_drewN | apply below_drew1 | refine below_set ?_ GE164.out) | exact HB.out))) : w.heap.size ≤ gb167)); have n4_ := Aside0.mk ((by rw [hg]; exact (below_size (by repeat (first | (with_reducible first | exact HB.out | apply below_alloc | apply pw_below_drewN | apply below_drew1 | refine below_set ?_ GE164.out) | exact HB.out))) : w.heap.size ≤ gb167)); have n5_ := Aside0.mk ((by rw [hg]; exact Nat.ne_of_lt (blk_lt (g := gb164) (o := .cells #[.int .i64 a0_0, .int .i64 a0_1, .slice (some ad166) l0_2.length c0_2] 35 (0, 0)) (by (with_reducible repeat (first | refine blk_drewN ?_ _ | refine blk_drew ?_ | refine blk_alloc ?_ _)); exact BK164.out)) : gb164 ≠ gb167)); have n6_ := Aside0.mk ((by rw [hg]; exact Nat.ne_of_gt (blk_lt (g := gb164) (o := .cells #[.int .i64 a0_0, .int .i64 a0_1, .slice (some ad166) l0_2.length c0_2] 35 (0, 0)) (by (with_reducible repeat (first | refine blk_drewN ?_ _ | refine blk_drew ?_ | refine blk_alloc ?_ _)); exact BK164.out)) : gb167 ≠ gb164)); clear BK164; clear HB; have BK164 := n0_; have HB := n1_; have BK167 := n2_; have GW167 := n3_; have GE167 := n4_; have NB164_167 := n5_; have NB167_164 := n6_; clear n0_ n1_ n2_ n3_ n4_ n5_ n6_; clear hb hbox hg; have hnb22 := NB167_164.out; have hnc22 := NB164_167.out; have hcz23_0 : w21.cell? ⟨gb167, 0, none⟩ = some (.int .i64 0) := (blk_cell BK167.out 0).trans rfl; have hcz23_1 : w21.cell? ⟨gb167, 1, none⟩ = some (.int .i64 0) := (blk_cell BK167.out 1).trans rfl; have hcz23_2 : w21.cell? ⟨gb167, 2, none⟩ = some (.int .i64 0) := (blk_cell BK167.out 2).trans rfl; have hcz23_3 : w21.cell? ⟨gb167, 3, none⟩ = some (.int .i64 0) := (blk_cell BK167.out 3).trans rfl; have hfz23_0 := blk_frozen BK167.out 0; have hfz23_1 := blk_frozen BK167.out 1; have hfz23_2 := blk_frozen BK167.out 2; have hfz23_3 := blk_frozen BK167.out 3) | ((with_reducible refine gate_put (t := 70) rfl ?_); refine put_arm rfl rfl (b := bm) (s := beatL l0_2 x17_1) (p := ((rd_T51 l0_2 x17_1).f0)) (q := ((rd_T51 l0_2 x17_1).f1)) ?hm ?hx ?hv ?hp ?hq ?hM ?hs ?_; (case hm => first | rfl | (go_simp; done)); (case hx => first | rfl | (go_simp; done)); (case hv => rfl); (case hp => exact (beatPut_wf A12.out).1); (case hq => exact (beatPut_wf A12.out).2); (case hM => (repeat (first | (with_reducible exact HM.out) | (with_reducible refine HasSet.drewN ?_ _) | (with_reducible refine HasSet.drew ?_) | (with_reducible refine HasSet.alloc ?_ _) | ((with_reducible refine HasSet.far ?_ NM167.out _))))); (case hs => exact hroom.out); intro w24 hput hg99; have n0_ := Aside0.mk (blk_grown (g := gb164) (o := .cells #[.int .i64 a0_0, .int .i64 a0_1, .slice (some ad166) l0_2.length c0_2] 35 (0, 0)) (by (repeat (first | (with_reducible exact BK164.out) | (with_reducible refine blk_drewN ?_ _) | (with_reducible refine blk_drew ?_) | (with_reducible refine blk_alloc ?_ _) | (refine blk_far ?_ NB164_167.out _)))) hg99 (HasSet.ne_cells (b := bm) (s := beatL l0_2 x17_1) (by (repeat (first | (with_reducible exact HM.out) | (with_reducible refine HasSet.drewN ?_ _) | (with_reducible refine HasSet.drew ?_) | (with_reducible refine HasSet.alloc ?_ _) | ((with_reducible refine HasSet.far ?_ NM167.out _))))) (by (repeat (first | (with_reducible exact BK164.out) | (with_reducible refine blk_drewN ?_ _) | (with_reducible refine blk_drew ?_) | (with_reducible refine blk_alloc ?_ _) | (refine blk_far ?_ NB164_167.out _)))))); have n3_ := Aside0.mk (blk_grown (g := gb167) (o := .cells #[.int .i64 ((rd_T51 l0_2 x17_1).f0), .int .i64 ((rd_T51 l0_2 x17_1).f1), .int .i64 ((rd_T51 l0_2 x17_1).f2), .int .i64 ((rd_T51 l0_2 x17_1).f3)] 51 (0, 0)) (by (with_reducible repeat (first | refine blk_drewN ?_ _ | refine blk_drew ?_ | refine blk_alloc ?_ _)); refine blk_put (cs := #[.int .i64 ((rd_T51 l0_2 x17_1).f0), .int .i64 ((rd_T51 l0_2 x17_1).f1), .int .i64 ((rd_T51 l0_2 x17_1).f2), .int .i64 0]) ?_ 3 _ rfl; (with_reducible repeat (first | refine blk_drewN ?_ _ | refine blk_drew ?_ | refine blk_alloc ?_ _)); refine blk_put (cs := #[.int .i64 ((rd_T51 l0_2 x17_1).f0), .int .i64 ((rd_T51 l0_2 x17_1).f1), .int .i64 0, .int .i64 0]) ?_ 2 _ rfl; (with_reducible repeat (first | refine blk_drewN ?_ _ | refine blk_drew ?_ | refine blk_alloc ?_ _)); refine blk_put (cs := #[.int .i64 ((rd_T51 l0_2 x17_1).f0), .int .i64 0, .int .i64 0, .int .i64 0]) ?_ 1 _ rfl; (with_reducible repeat (first | refine blk_drewN ?_ _ | refine blk_drew ?_ | refine blk_alloc ?_ _)); refine blk_put (cs := #[.int .i64 0, .int .i64 0, .int .i64 0, .int .i64 0]) ?_ 0 _ rfl; (with_reducible repeat (first | refine blk_drewN ?_ _ | refine blk_drew ?_ | refine blk_alloc ?_ _)); exact BK167.out) hg99 (HasSet.ne_cells HM.out BK167.out)); have n1_ := Aside0.mk (pw_below_grown (by (repeat (first | (with_reducible first | exact HB.out | apply below_alloc | apply pw_below_drewN | apply below_drew1 | refine below_set ?_ GE164.out | refine below_set ?_ GE167.out) | exact HB.out))) (some bm) (below_size (by (repeat (first | (with_reducible first | exact HB.out | apply below_alloc | apply pw_below_drewN | apply below_drew1 | refine below_set ?_ GE164.out | refine below_set ?_ GE167.out) | exact HB.out)))) hg99 (fun k_ hk_ => by injection hk_ with hk_; subst hk_; exact GM.out)); have n2_ := Aside0.mk hput; clear BK164 BK167 HB HM; have BK164 := n0_; have HB := n1_; have HM := n2_; have BK167 := n3_; clear n0_ n1_ n2_ n3_ hput hg99; have hcz25_0 : w24.cell? ⟨gb167, 0, none⟩ = some (.int .i64 ((rd_T51 l0_2 x17_1).f0)) := (blk_cell BK167.out 0).trans rfl; have hcz25_1 : w24.cell? ⟨gb167, 1, none⟩ = some (.int .i64 ((rd_T51 l0_2 x17_1).f1)) := (blk_cell BK167.out 1).trans rfl; have hcz25_2 : w24.cell? ⟨gb167, 2, none⟩ = some (.int .i64 ((rd_T51 l0_2 x17_1).f2)) := (blk_cell BK167.out 2).trans rfl; have hcz25_3 : w24.cell? ⟨gb167, 3, none⟩ = some (.int .i64 ((rd_T51 l0_2 x17_1).f3)) := (blk_cell BK167.out 3).trans rfl; have hfz25_0 := blk_frozen BK167.out 0; have hfz25_1 := blk_frozen BK167.out 1; have hfz25_2 := blk_frozen BK167.out 2; have hfz25_3 := blk_frozen BK167.out 3))
                  go_roundg k1
                  case measure => have := HK1.out; omega
                  case rel => exact ⟨(wrap64 (x17_1 + 1)), (by first | rfl | (simp; done) | (simp [*]; done)), H', ⟨by have := HK1.out; omega⟩, ⟨by (with_reducible repeat (first | refine blk_drewN ?_ _ | refine blk_drew ?_ | refine blk_alloc ?_ _)); exact BK164.out⟩, ⟨by repeat (first | (with_reducible first | exact HB.out | apply below_alloc | apply pw_below_drewN | apply below_drew1 | refine below_set ?_ GE164.out | refine below_set ?_ GE167.out) | exact HB.out)⟩, ⟨by rw [hstep.out]; exact (by (repeat (first | (with_reducible exact HM.out) | (with_reducible refine HasSet.drewN ?_ _) | (with_reducible refine HasSet.drew ?_) | (with_reducible refine HasSet.alloc ?_ _) | ((with_reducible refine HasSet.far ?_ NM167.out _)))))⟩⟩
              · rw [if_neg c11] at H
                have c11b0 : decide (((rd_T51 l0_2 x17_1).f3) < ((rd_T51 l0_2 x17_1).f2)) = false := decide_eq_false c11
                clear c11
                by_cases c26 : ((rd_T51 l0_2 x17_1).f2) < ((rd_T51 l0_2 x17_1).f3)
                · rw [if_pos c26] at H
                  have c26b0 : decide (((rd_T51 l0_2 x17_1).f2) < ((rd_T51 l0_2 x17_1).f3)) = true := decide_eq_true c26
                  clear c26
                  replace H := Option.bind_eq_some_iff.mp H
                  obtain ⟨t170, A270, H⟩ := H
                  replace H : (impl_FirstRing.l0 k1 l0_2 (l0_2.length : Int) (wrap64 (x17_1 + 1)) a0_0 a0_1 l0_2) = some (r1, r2) := H
                  have A27 := Aside0.mk A270
                  clear A270
                  have H' := Aside0.mk H
                  clear H
                  have p166 : 0 ≤ (x17_1 : Int) := of_decide_eq_true (by first | (with_reducible assumption) | assumption)
                  have q166 : x17_1 < (l0_2.length : Int) := of_decide_eq_true (by first | (with_reducible assumption) | assumption)
                  obtain ⟨ad166, e166, hx166_0, hx166_1, hx166_2, hx166_3⟩ := at_T51 HR0_2.out x17_1 p166 q166
                  cases e166
                  replace hx166_0 := (HB.out.cell (World.block_lt_of_cell? w _ hx166_0)).trans hx166_0
                  replace hx166_1 := (HB.out.cell (World.block_lt_of_cell? w _ hx166_1)).trans hx166_1
                  replace hx166_2 := (HB.out.cell (World.block_lt_of_cell? w _ hx166_2)).trans hx166_2
                  replace hx166_3 := (HB.out.cell (World.block_lt_of_cell? w _ hx166_3)).trans hx166_3
                  have hroom : Aside0 ((beatL l0_2 x17_1).length < maxLen) := ⟨beatL_room HR0_2.out p166 q166⟩
                  have hstep := Aside0.mk (beatL_lt HR0_2.out p166 q166 c11b0 c26b0)
                  replace p166 := eq_true p166
                  replace q166 := eq_true q166
                  go_wp2_with (first | ((with_reducible refine gate_dst (N := 6) rfl ?_); refine box_event ?hg (N := 6) ?hd (cs := #[.int .i64 0, .int .i64 0, .int .i64 0, .int .i64 0]) (t := 51) ?hr ?_; (case hd => rfl); (case hg => rfl); (case hr => first | (go_simp; done) | (go_simp; rfl)); intro gb167 hg w28 hbox hb; have nm_ := Aside0.mk (HasSet.below (b := bm) (s := beatL l0_2 x17_1) (by (repeat (first | (with_reducible exact HM.out) | (with_reducible refine HasSet.drewN ?_ _) | (with_reducible refine HasSet.drew ?_) | (with_reducible refine HasSet.alloc ?_ _)))) hb); have NM167 := Aside0.mk ((by rw [hg]; exact Nat.ne_of_lt (HasSet.lt (b := bm) (s := beatL l0_2 x17_1) (by (repeat (first | (with_reducible exact HM.out) | (with_reducible refine HasSet.drewN ?_ _) | (with_reducible refine HasSet.drew ?_) | (with_reducible refine HasSet.alloc ?_ _)))))) : bm ≠ gb167); clear HM; have HM := nm_; clear nm_; have n0_ := Aside0.mk (blk_below (g := gb164) (o := .cells #[.int .i64 a0_0, .int .i64 a0_1, .slice (some ad166) l0_2.length c0_2] 35 (0, 0)) (by (with_reducible repeat (first | refine blk_drewN ?_ _ | refine blk_drew ?_ | refine blk_alloc ?_ _)); exact BK164.out) hb); have n1_ := Aside0.mk (below_step (by repeat (first | (with_reducible first | exact HB.out | apply below_alloc | apply pw_below_drewN | apply below_drew1 | refine below_set ?_ GE164.out) | exact HB.out)) hb); have n2_ := Aside0.mk (hbox); have n3_ := Aside0.mk ((by rw [hg]; exact (below_size (by repeat (first | (with_reducible first | exact HB.out | apply below_alloc | apply pw_below_drewN | apply below_drew1 | refine below_set ?_ GE164.out) | exact HB.out))) : w.heap.size ≤ gb167)); have n4_ := Aside0.mk ((by rw [hg]; exact (below_size (by repeat (first | (with_reducible first | exact HB.out | apply below_alloc | apply pw_below_drewN | apply below_drew1 | refine below_set ?_ GE164.out) | exact HB.out))) : w.heap.size ≤ gb167)); have n5_ := Aside0.mk ((by rw [hg]; exact Nat.ne_of_lt (blk_lt (g := gb164) (o := .cells #[.int .i64 a0_0, .int .i64 a0_1, .slice (some ad166) l0_2.length c0_2] 35 (0, 0)) (by (with_reducible repeat (first | refine blk_drewN ?_ _ | refine blk_drew ?_ | refine blk_alloc ?_ _)); exact BK164.out)) : gb164 ≠ gb167)); have n6_ := Aside0.mk ((by rw [hg]; exact Nat.ne_of_gt (blk_lt (g := gb164) (o := .cells #[.int .i64 a0_0, .int .i64 a0_1, .slice (some ad166) l0_2.length c0_2] 35 (0, 0)) (by (with_reducible repeat (first | refine blk_drewN ?_ _ | refine blk_drew ?_ | refine blk_alloc ?_ _)); exact BK164.out)) : gb167 ≠ gb164)); clear BK164; clear HB; have BK164 := n0_; have HB := n1_; have BK167 := n2_; have GW167 := n3_; have GE167 := n4_; have NB164_167 := n5_; have NB167_164 := n6_; clear n0_ n1_ n2_ n3_ n4_ n5_ n6_; clear hb hbox hg; have hnb29 := NB167_164.out; have hnc29 := NB164_167.out; have hcz30_0 : w28.cell? ⟨gb167, 0, none⟩ = some (.int .i64 0) := (blk_cell BK167.out 0).trans rfl; have hcz30_1 : w28.cell? ⟨gb167, 1, none⟩ = some (.int .i64 0) := (blk_cell BK167.out 1).trans rfl; have hcz30_2 : w28.cell? ⟨gb167, 2, none⟩ = some (.int .i64 0) := (blk_cell BK167.out 2).trans rfl; have hcz30_3 : w28.cell? ⟨gb167, 3, none⟩ = some (.int .i64 0) := (blk_cell BK167.out 3).trans rfl; have hfz30_0 := blk_frozen BK167.out 0; have hfz30_1 := blk_frozen BK167.out 1; have hfz30_2 := blk_frozen BK167.out 2; have hfz30_3 := blk_frozen BK167.out 3) | ((with_reducible refine gate_put (t := 70) rfl ?_); refine put_arm rfl rfl (b := bm) (s := beatL l0_2 x17_1) (p := ((rd_T51 l0_2 x17_1).f1)) (q := ((rd_T51 l0_2 x17_1).f0)) ?hm ?hx ?hv ?hp ?hq ?hM ?hs ?_; (case hm => first | rfl | (go_simp; done)); (case hx => first | rfl | (go_simp; done)); (case hv => rfl); (case hp => exact (beatPut_wf A27.out).1); (case hq => exact (beatPut_wf A27.out).2); (case hM => (repeat (first | (with_reducible exact HM.out) | (with_reducible refine HasSet.drewN ?_ _) | (with_reducible refine HasSet.drew ?_) | (with_reducible refine HasSet.alloc ?_ _) | ((with_reducible refine HasSet.far ?_ NM167.out _))))); (case hs => exact hroom.out); intro w31 hput hg99; have n0_ := Aside0.mk (blk_grown (g := gb164) (o := .cells #[.int .i64 a0_0, .int .i64 a0_1, .slice (some ad166) l0_2.length c0_2] 35 (0, 0)) (by (repeat (first | (with_reducible exact BK164.out) | (with_reducible refine blk_drewN ?_ _) | (with_reducible refine blk_drew ?_) | (with_reducible refine blk_alloc ?_ _) | (refine blk_far ?_ NB164_167.out _)))) hg99 (HasSet.ne_cells (b := bm) (s := beatL l0_2 x17_1) (by (repeat (first | (with_reducible exact HM.out) | (with_reducible refine HasSet.drewN ?_ _) | (with_reducible refine HasSet.drew ?_) | (with_reducible refine HasSet.alloc ?_ _) | ((with_reducible refine HasSet.far ?_ NM167.out _))))) (by (repeat (first | (with_reducible exact BK164.out) | (with_reducible refine blk_drewN ?_ _) | (with_reducible refine blk_drew ?_) | (with_reducible refine blk_alloc ?_ _) | (refine blk_far ?_ NB164_167.out _)))))); have n3_ := Aside0.mk (blk_grown (g := gb167) (o := .cells #[.int .i64 ((rd_T51 l0_2 x17_1).f0), .int .i64 ((rd_T51 l0_2 x17_1).f1), .int .i64 ((rd_T51 l0_2 x17_1).f2), .int .i64 ((rd_T51 l0_2 x17_1).f3)] 51 (0, 0)) (by (with_reducible repeat (first | refine blk_drewN ?_ _ | refine blk_drew ?_ | refine blk_alloc ?_ _)); refine blk_put (cs := #[.int .i64 ((rd_T51 l0_2 x17_1).f0), .int .i64 ((rd_T51 l0_2 x17_1).f1), .int .i64 ((rd_T51 l0_2 x17_1).f2), .int .i64 0]) ?_ 3 _ rfl; (with_reducible repeat (first | refine blk_drewN ?_ _ | refine blk_drew ?_ | refine blk_alloc ?_ _)); refine blk_put (cs := #[.int .i64 ((rd_T51 l0_2 x17_1).f0), .int .i64 ((rd_T51 l0_2 x17_1).f1), .int .i64 0, .int .i64 0]) ?_ 2 _ rfl; (with_reducible repeat (first | refine blk_drewN ?_ _ | refine blk_drew ?_ | refine blk_alloc ?_ _)); refine blk_put (cs := #[.int .i64 ((rd_T51 l0_2 x17_1).f0), .int .i64 0, .int .i64 0, .int .i64 0]) ?_ 1 _ rfl; (with_reducible repeat (first | refine blk_drewN ?_ _ | refine blk_drew ?_ | refine blk_alloc ?_ _)); refine blk_put (cs := #[.int .i64 0, .int .i64 0, .int .i64 0, .int .i64 0]) ?_ 0 _ rfl; (with_reducible repeat (first | refine blk_drewN ?_ _ | refine blk_drew ?_ | refine blk_alloc ?_ _)); exact BK167.out) hg99 (HasSet.ne_cells HM.out BK167.out)); have n1_ := Aside0.mk (pw_below_grown (by (repeat (first | (with_reducible first | exact HB.out | apply below_alloc | apply pw_below_drewN | apply below_drew1 | refine below_set ?_ GE164.out | refine below_set ?_ GE167.out) | exact HB.out))) (some bm) (below_size (by (repeat (first | (with_reducible first | exact HB.out | apply below_alloc | apply pw_below_drewN | apply below_drew1 | refine below_set ?_ GE164.out | refine below_set ?_ GE167.out) | exact HB.out)))) hg99 (fun k_ hk_ => by injection hk_ with hk_; subst hk_; exact GM.out)); have n2_ := Aside0.mk hput; clear BK164 BK167 HB HM; have BK164 := n0_; have HB := n1_; have HM := n2_; have BK167 := n3_; clear n0_ n1_ n2_ n3_ hput hg99))
                  go_roundg k1
                  case measure => have := HK1.out; omega
                  case rel => exact ⟨(wrap64 (x17_1 + 1)), (by first | rfl | (simp; done) | (simp [*]; done)), H', ⟨by have := HK1.out; omega⟩, ⟨by (with_reducible repeat (first | refine blk_drewN ?_ _ | refine blk_drew ?_ | refine blk_alloc ?_ _)); exact BK164.out⟩, ⟨by repeat (first | (with_reducible first | exact HB.out | apply below_alloc | apply pw_below_drewN | apply below_drew1 | refine below_set ?_ GE164.out | refine below_set ?_ GE167.out) | exact HB.out)⟩, ⟨by rw [hstep.out]; exact (by (repeat (first | (with_reducible exact HM.out) | (with_reducible refine HasSet.drewN ?_ _) | (with_reducible refine HasSet.drew ?_) | (with_reducible refine HasSet.alloc ?_ _) | ((with_reducible refine HasSet.far ?_ NM167.out _)))))⟩⟩
                · rw [if_neg c26] at H
                  have c26b0 : decide (((rd_T51 l0_2 x17_1).f2) < ((rd_T51 l0_2 x17_1).f3)) = false := decide_eq_false c26
                  clear c26
                  have H' := Aside0.mk H
                  clear H
                  have p166 : 0 ≤ (x17_1 : Int) := of_decide_eq_true (by first | (with_reducible assumption) | assumption)
                  have q166 : x17_1 < (l0_2.length : Int) := of_decide_eq_true (by first | (with_reducible assumption) | assumption)
                  obtain ⟨ad166, e166, hx166_0, hx166_1, hx166_2, hx166_3⟩ := at_T51 HR0_2.out x17_1 p166 q166
                  cases e166
                  replace hx166_0 := (HB.out.cell (World.block_lt_of_cell? w _ hx166_0)).trans hx166_0
                  replace hx166_1 := (HB.out.cell (World.block_lt_of_cell? w _ hx166_1)).trans hx166_1
                  replace hx166_2 := (HB.out.cell (World.block_lt_of_cell? w _ hx166_2)).trans hx166_2
                  replace hx166_3 := (HB.out.cell (World.block_lt_of_cell? w _ hx166_3)).trans hx166_3
                  have hroom : Aside0 ((beatL l0_2 x17_1).length < maxLen) := ⟨beatL_room HR0_2.out p166 q166⟩
                  have hstep := Aside0.mk (beatL_eq HR0_2.out p166 q166 c11b0 c26b0)
                  replace p166 := eq_true p166
                  replace q166 := eq_true q166
                  go_wp2_with (first | ((with_reducible refine gate_dst (N := 6) rfl ?_); refine box_event ?hg (N := 6) ?hd (cs := #[.int .i64 0, .int .i64 0, .int .i64 0, .int .i64 0]) (t := 51) ?hr ?_; (case hd => rfl); (case hg => rfl); (case hr => first | (go_simp; done) | (go_simp; rfl)); intro gb167 hg w32 hbox hb; have nm_ := Aside0.mk (HasSet.below (b := bm) (s := beatL l0_2 x17_1) (by (repeat (first | (with_reducible exact HM.out) | (with_reducible refine HasSet.drewN ?_ _) | (with_reducible refine HasSet.drew ?_) | (with_reducible refine HasSet.alloc ?_ _)))) hb); have NM167 := Aside0.mk ((by rw [hg]; exact Nat.ne_of_lt (HasSet.lt (b := bm) (s := beatL l0_2 x17_1) (by (repeat (first | (with_reducible exact HM.out) | (with_reducible refine HasSet.drewN ?_ _) | (with_reducible refine HasSet.drew ?_) | (with_reducible refine HasSet.alloc ?_ _)))))) : bm ≠ gb167); clear HM; have HM := nm_; clear nm_; have n0_ := Aside0.mk (blk_below (g := gb164) (o := .cells #[.int .i64 a0_0, .int .i64 a0_1, .slice (some ad166) l0_2.length c0_2] 35 (0, 0)) (by (with_reducible repeat (first | refine blk_drewN ?_ _ | refine blk_drew ?_ | refine blk_alloc ?_ _)); exact BK164.out) hb); have n1_ := Aside0.mk (below_step (by repeat (first | (with_reducible first | exact HB.out | apply below_alloc | apply pw_below_drewN | apply below_drew1 | refine below_set ?_ GE164.out) | exact HB.out)) hb); have n2_ := Aside0.mk (hbox); have n3_ := Aside0.mk ((by rw [hg]; exact (below_size (by repeat (first | (with_reducible first | exact HB.out | apply below_alloc | apply pw_below_drewN | apply below_drew1 | refine below_set ?_ GE164.out) | exact HB.out))) : w.heap.size ≤ gb167)); have n4_ := Aside0.mk ((by rw [hg]; exact (below_size (by repeat (first | (with_reducible first | exact HB.out | apply below_alloc | apply pw_below_drewN | apply below_drew1 | refine below_set ?_ GE164.out) | exact HB.out))) : w.heap.size ≤ gb167)); have n5_ := Aside0.mk ((by rw [hg]; exact Nat.ne_of_lt (blk_lt (g := gb164) (o := .cells #[.int .i64 a0_0, .int .i64 a0_1, .slice (some ad166) l0_2.length c0_2] 35 (0, 0)) (by (with_reducible repeat (first | refine blk_drewN ?_ _ | refine blk_drew ?_ | refine blk_alloc ?_ _)); exact BK164.out)) : gb164 ≠ gb167)); have n6_ := Aside0.mk ((by rw [hg]; exact Nat.ne_of_gt (blk_lt (g := gb164) (o := .cells #[.int .i64 a0_0, .int .i64 a0_1, .slice (some ad166) l0_2.length c0_2] 35 (0, 0)) (by (with_reducible repeat (first | refine blk_drewN ?_ _ | refine blk_drew ?_ | refine blk_alloc ?_ _)); exact BK164.out)) : gb167 ≠ gb164)); clear BK164; clear HB; have BK164 := n0_; have HB := n1_; have BK167 := n2_; have GW167 := n3_; have GE167 := n4_; have NB164_167 := n5_; have NB167_164 := n6_; clear n0_ n1_ n2_ n3_ n4_ n5_ n6_; clear hb hbox hg; have hnb33 := NB167_164.out; have hnc33 := NB164_167.out; have hcz34_0 : w32.cell? ⟨gb167, 0, none⟩ = some (.int .i64 0) := (blk_cell BK167.out 0).trans rfl; have hcz34_1 : w32.cell? ⟨gb167, 1, none⟩ = some (.int .i64 0) := (blk_cell BK167.out 1).trans rfl; have hcz34_2 : w32.cell? ⟨gb167, 2, none⟩ = some (.int .i64 0) := (blk_cell BK167.out 2).trans rfl; have hcz34_3 : w32.cell? ⟨gb167, 3, none⟩ = some (.int .i64 0) := (blk_cell BK167.out 3).trans rfl; have hfz34_0 := blk_frozen BK167.out 0; have hfz34_1 := blk_frozen BK167.out 1; have hfz34_2 := blk_frozen BK167.out 2; have hfz34_3 := blk_frozen BK167.out 3))
                  go_roundg k1
                  case measure => have := HK1.out; omega
                  case rel => exact ⟨(wrap64 (x17_1 + 1)), (by first | rfl | (simp; done) | (simp [*]; done)), H', ⟨by have := HK1.out; omega⟩, ⟨by (with_reducible repeat (first | refine blk_drewN ?_ _ | refine blk_drew ?_ | refine blk_alloc ?_ _)); refine blk_far ?_ NB164_167.out _; (with_reducible repeat (first | refine blk_drewN ?_ _ | refine blk_drew ?_ | refine blk_alloc ?_ _)); refine blk_far ?_ NB164_167.out _; (with_reducible repeat (first | refine blk_drewN ?_ _ | refine blk_drew ?_ | refine blk_alloc ?_ _)); refine blk_far ?_ NB164_167.out _; (with_reducible repeat (first | refine blk_drewN ?_ _ | refine blk_drew ?_ | refine blk_alloc ?_ _)); refine blk_far ?_ NB164_167.out _; (with_reducible repeat (first | refine blk_drewN ?_ _ | refine blk_drew ?_ | refine blk_alloc ?_ _)); exact BK164.out⟩, ⟨by repeat (first | (with_reducible first | exact HB.out | apply below_alloc | apply pw_below_drewN | apply below_drew1 | refine below_set ?_ GE164.out | refine below_set ?_ GE167.out) | exact HB.out)⟩, ⟨by rw [hstep.out]; exact (by (repeat (first | (with_reducible exact HM.out) | (with_reducible refine HasSet.drewN ?_ _) | (with_reducible refine HasSet.drew ?_) | (with_reducible refine HasSet.alloc ?_ _) | ((with_reducible refine HasSet.far ?_ NM167.out _)))))⟩⟩
            · rw [if_neg c10] at H
              exact absurd H (by simp)
          · rw [if_neg c9] at H
            exact absurd H (by simp)
        · rw [if_neg c8] at H
          have c8b0 : decide (x17_1 < (l0_2.length : Int)) = false := decide_eq_false c8
          have hend_ := c8b0
          clear c8
          have H' := Aside0.mk H
          clear H
          have hcz35_0 : wr.cell? ⟨gb164, 0, none⟩ = some (.int .i64 a0_0) := (blk_cell BK164.out 0).trans rfl
          have hcz35_1 : wr.cell? ⟨gb164, 1, none⟩ = some (.int .i64 a0_1) := (blk_cell BK164.out 1).trans rfl
          have hcz35_2 : wr.cell? ⟨gb164, 2, none⟩ = some (.slice A0_2 l0_2.length c0_2) := (blk_cell BK164.out 2).trans rfl
          have hfz35_0 := blk_frozen BK164.out 0
          have hfz35_1 := blk_frozen BK164.out 1
          have hfz35_2 := blk_frozen BK164.out 2
          go_wp2
          go_loopg [46] k1 (fun kq v46 w' => ∃ (x46_2 : Int), v46 = .int .i64 x46_2 ∧ Aside0 (impl_FirstRing.l1 kq l0_2 a0_0 x46_2 a0_0 a0_1 l0_2 = some (r1, r2)) ∧ Aside0 (kq ≤ k1) ∧ Aside0 (w'.heap[gb164]? = some (.cells #[.int .i64 a0_0, .int .i64 a0_1, (.slice A0_2 l0_2.length c0_2)] 35 (0, 0))) ∧ Aside0 (Below w.heap.size w w') ∧ Aside0 (HasSet w' bm (beatL l0_2 (l0_2.length : Int))))
          case atStart => exact ⟨(0), (by first | rfl | (simp; done) | (simp [*]; done)), H', ⟨Nat.le_refl _⟩, ⟨by (with_reducible repeat (first | refine blk_drewN ?_ _ | refine blk_drew ?_ | refine blk_alloc ?_ _)); exact BK164.out⟩, ⟨by repeat (first | (with_reducible first | exact HB.out | apply below_alloc | apply pw_below_drewN | apply below_drew1 | refine below_set ?_ GE164.out) | exact HB.out)⟩, ⟨by rw [← beatL_end l0_2 (show (l0_2.length : Int) ≤ x17_1 from Int.not_lt.mp (of_decide_eq_false hend_))]; exact HM.out⟩⟩
          case round =>
            try clear HM
            try clear hcz99_0
            try clear hcz99_1
            try clear hcz99_2
            clear H'
            try clear c1
            try clear p1
            try clear q1
            try clear hx1
            try clear c2
            try clear p2
            try clear c3
            try clear c4
            try clear p6
            try clear c8
            try clear c8b0
            try clear c9
            try clear c9b0
            try clear c10
            try clear c10b0
            try clear c11
            try clear c11b0
            try clear c13
            try clear c13b0
            try clear c16
            try clear p16
            try clear q16
            try clear hx16
            try clear c22
            try clear c23
            try clear c26
            try clear c26b0
            try clear c29
            try clear c33
            try clear hcz17_0
            try clear hcz17_1
            try clear hcz17_2
            try clear hcz17_3
            try clear hcz19_0
            try clear hcz19_1
            try clear hcz19_2
            try clear hcz19_3
            try clear hcz23_0
            try clear hcz23_1
            try clear hcz23_2
            try clear hcz23_3
            try clear hcz25_0
            try clear hcz25_1
            try clear hcz25_2
            try clear hcz25_3
            try clear hcz30_0
            try clear hcz30_1
            try clear hcz30_2
            try clear hcz30_3
            try clear hcz34_0
            try clear hcz34_1
            try clear hcz34_2
            try clear hcz34_3
            try clear hcz35_0
            try clear hcz35_1
            try clear hcz35_2
            try clear hcz5_0
            try clear hcz5_1
            try clear hcz5_2
            try clear hcz7_0
            try clear hcz7_1
            try clear hcz7_2
            try clear hfz17_0
            try clear hfz17_1
            try clear hfz17_2
            try clear hfz17_3
            try clear hfz19_0
            try clear hfz19_1
            try clear hfz19_2
            try clear hfz19_3
            try clear hfz23_0
            try clear hfz23_1
            try clear hfz23_2
            try clear hfz23_3
            try clear hfz25_0
            try clear hfz25_1
            try clear hfz25_2
            try clear hfz25_3
            try clear hfz30_0
            try clear hfz30_1
            try clear hfz30_2
            try clear hfz30_3
            try clear hfz34_0
            try clear hfz34_1
            try clear hfz34_2
            try clear hfz34_3
            try clear hfz35_0
            try clear hfz35_1
            try clear hfz35_2
            try clear hfz5_0
            try clear hfz5_1
            try clear hfz5_2
            try clear hfz7_0
            try clear hfz7_1
            try clear hfz7_2
            try clear hx166_0
            try clear hx166_1
            try clear hx166_2
            try clear hx166_3
            try clear p166
            try clear p2
            try clear q166
            obtain ⟨x46_2, rfl, HA, HK2, BK164, HB, HM⟩ := hrel
            cases gk with
            | zero => exact absurd HA.out (by simp [impl_FirstRing.l1])
            | succ k2 =>
              have H := HA.out
              clear HA
              simp only [impl_FirstRing.l1] at H
              by_cases c36 : x46_2 < a0_0
              · rw [if_pos c36] at H
                have c36b0 : decide (x46_2 < a0_0) = true := decide_eq_true c36
                clear c36
                have H' := Aside0.mk H
                clear H
                go_wp2
                go_loopg [8] k2 (fun kq v8 w' => ∃ (x8_3 : Int), v8 = .int .i64 x8_3 ∧ Aside0 (impl_FirstRing.l2 kq x46_2 x8_3 l0_2 a0_0 x46_2 a0_0 a0_1 l0_2 = some (r1, r2)) ∧ Aside0 (kq ≤ k2) ∧ Aside0 (w'.heap[gb164]? = some (.cells #[.int .i64 a0_0, .int .i64 a0_1, (.slice A0_2 l0_2.length c0_2)] 35 (0, 0))) ∧ Aside0 (Below w.heap.size w w') ∧ Aside0 (HasSet w' bm (beatL l0_2 (l0_2.length : Int))))
                case atStart => exact ⟨(wrap64 (x46_2 + 1)), (by first | rfl | (simp; done) | (simp [*]; done)), H', ⟨Nat.le_refl _⟩, ⟨by (with_reducible repeat (first | refine blk_drewN ?_ _ | refine blk_drew ?_ | refine blk_alloc ?_ _)); exact BK164.out⟩, ⟨by repeat (first | (with_reducible first | exact HB.out | apply below_alloc | apply pw_below_drewN | apply below_drew1 | refine below_set ?_ GE164.out) | exact HB.out)⟩, ⟨by exact HM.out⟩⟩
                case round =>
                  try clear HM
                  try clear hcz99_0
                  try clear hcz99_1
                  try clear hcz99_2
                  clear H'
                  try clear c1
                  try clear p1
                  try clear q1
                  try clear hx1
                  try clear c2
                  try clear p2
                  try clear c3
                  try clear c4
                  try clear p6
                  try clear c8
                  try clear c8b0
                  try clear c9
                  try clear c9b0
                  try clear c10
                  try clear c10b0
                  try clear c11
                  try clear c11b0
                  try clear c13
                  try clear c13b0
                  try clear c16
                  try clear p16
                  try clear q16
                  try clear hx16
                  try clear c22
                  try clear c23
                  try clear c26
                  try clear c26b0
                  try clear c29
                  try clear c33
                  try clear c36
                  try clear c36b0
                  try clear hcz17_0
                  try clear hcz17_1
                  try clear hcz17_2
                  try clear hcz17_3
                  try clear hcz19_0
                  try clear hcz19_1
                  try clear hcz19_2
                  try clear hcz19_3
                  try clear hcz23_0
                  try clear hcz23_1
                  try clear hcz23_2
                  try clear hcz23_3
                  try clear hcz25_0
                  try clear hcz25_1
                  try clear hcz25_2
                  try clear hcz25_3
                  try clear hcz30_0
                  try clear hcz30_1
                  try clear hcz30_2
                  try clear hcz30_3
                  try clear hcz34_0
                  try clear hcz34_1
                  try clear hcz34_2
                  try clear hcz34_3
                  try clear hcz35_0
                  try clear hcz35_1
                  try clear hcz35_2
                  try clear hcz5_0
                  try clear hcz5_1
                  try clear hcz5_2
                  try clear hcz7_0
                  try clear hcz7_1
                  try clear hcz7_2
                  try clear hfz17_0
                  try clear hfz17_1
                  try clear hfz17_2
                  try clear hfz17_3
                  try clear hfz19_0
                  try clear hfz19_1
                  try clear hfz19_2
                  try clear hfz19_3
                  try clear hfz23_0
                  try clear hfz23_1
                  try clear hfz23_2
                  try clear hfz23_3
                  try clear hfz25_0
                  try clear hfz25_1
                  try clear hfz25_2
                  try clear hfz25_3
                  try clear hfz30_0
                  try clear hfz30_1
                  try clear hfz30_2
                  try clear hfz30_3
                  try clear hfz34_0
                  try clear hfz34_1
                  try clear hfz34_2
                  try clear hfz34_3
                  try clear hfz35_0
                  try clear hfz35_1
                  try clear hfz35_2
                  try clear hfz5_0
                  try clear hfz5_1
                  try clear hfz5_2
                  try clear hfz7_0
                  try clear hfz7_1
                  try clear hfz7_2
                  try clear hx166_0
                  try clear hx166_1
                  try clear hx166_2
                  try clear hx166_3
                  try clear p1
                  try clear p16
                  try clear p166
                  try clear p2
                  try clear p6
                  try clear q1
                  try clear q16
                  try clear q166
                  obtain ⟨x8_3, rfl, HA, HK3, BK164, HB, HM⟩ := hrel
                  cases gk with
                  | zero => exact absurd HA.out (by simp [impl_FirstRing.l2])
                  | succ k3 =>
                    have H := HA.out
                    clear HA
                    simp only [impl_FirstRing.l2] at H
                    by_cases c37 : x8_3 < a0_0
                    · rw [if_pos c37] at H
                      have c37b0 : decide (x8_3 < a0_0) = true := decide_eq_true c37
                      clear c37
                      have H' := Aside0.mk H
                      clear H
                      have hcz38_0 : wr.cell? ⟨gb164, 0, none⟩ = some (.int .i64 a0_0) := (blk_cell BK164.out 0).trans rfl
                      have hcz38_1 : wr.cell? ⟨gb164, 1, none⟩ = some (.int .i64 a0_1) := (blk_cell BK164.out 1).trans rfl
                      have hcz38_2 : wr.cell? ⟨gb164, 2, none⟩ = some (.slice A0_2 l0_2.length c0_2) := (blk_cell BK164.out 2).trans rfl
                      have hfz38_0 := blk_frozen BK164.out 0
                      have hfz38_1 := blk_frozen BK164.out 1
                      have hfz38_2 := blk_frozen BK164.out 2
                      go_wp2
                      go_loopg [9] k3 (fun kq v9 w' => ∃ (x9_4 : Int), v9 = .int .i64 x9_4 ∧ Aside0 (impl_FirstRing.l3 kq x46_2 x8_3 x9_4 l0_2 a0_0 x46_2 a0_0 a0_1 l0_2 = some (r1, r2)) ∧ Aside0 (kq ≤ k3) ∧ Aside0 (w'.heap[gb164]? = some (.cells #[.int .i64 a0_0, .int .i64 a0_1, (.slice A0_2 l0_2.length c0_2)] 35 (0, 0))) ∧ Aside0 (Below w.heap.size w w') ∧ Aside0 (HasSet w' bm (beatL l0_2 (l0_2.length : Int))))
                      case atStart => exact ⟨(wrap64 (x46_2 + 1)), (by first | rfl | (simp; done) | (simp [*]; done)), H', ⟨Nat.le_refl _⟩, ⟨by (with_reducible repeat (first | refine blk_drewN ?_ _ | refine blk_drew ?_ | refine blk_alloc ?_ _)); exact BK164.out⟩, ⟨by repeat (first | (with_reducible first | exact HB.out | apply below_alloc | apply pw_below_drewN | apply below_drew1 | refine below_set ?_ GE164.out) | exact HB.out)⟩, ⟨by exact HM.out⟩⟩
                      case round =>
                        try clear HM
                        try clear hcz99_0
                        try clear hcz99_1
                        try clear hcz99_2
                        clear H'
                        try clear c1
                        try clear p1
                        try clear q1
                        try clear hx1
                        try clear c2
                        try clear p2
                        try clear c3
                        try clear c4
                        try clear p6
                        try clear c8
                        try clear c8b0
                        try clear c9
                        try clear c9b0
                        try clear c10
                        try clear c10b0
                        try clear c11
                        try clear c11b0
                        try clear c13
                        try clear c13b0
                        try clear c16
                        try clear p16
                        try clear q16
                        try clear hx16
                        try clear c22
                        try clear c23
                        try clear c26
                        try clear c26b0
                        try clear c29
                        try clear c33
                        try clear c36
                        try clear c36b0
                        try clear c37
                        try clear c37b0
                        try clear hcz17_0
                        try clear hcz17_1
                        try clear hcz17_2
                        try clear hcz17_3
                        try clear hcz19_0
                        try clear hcz19_1
                        try clear hcz19_2
                        try clear hcz19_3
                        try clear hcz23_0
                        try clear hcz23_1
                        try clear hcz23_2
                        try clear hcz23_3
                        try clear hcz25_0
                        try clear hcz25_1
                        try clear hcz25_2
                        try clear hcz25_3
                        try clear hcz30_0
                        try clear hcz30_1
                        try clear hcz30_2
                        try clear hcz30_3
                        try clear hcz34_0
                        try clear hcz34_1
                        try clear hcz34_2
                        try clear hcz34_3
                        try clear hcz35_0
                        try clear hcz35_1
                        try clear hcz35_2
                        try clear hcz38_0
                        try clear hcz38_1
                        try clear hcz38_2
                        try clear hcz5_0
                        try clear hcz5_1
                        try clear hcz5_2
                        try clear hcz7_0
                        try clear hcz7_1
                        try clear hcz7_2
                        try clear hfz17_0
                        try clear hfz17_1
                        try clear hfz17_2
                        try clear hfz17_3
                        try clear hfz19_0
                        try clear hfz19_1
                        try clear hfz19_2
                        try clear hfz19_3
                        try clear hfz23_0
                        try clear hfz23_1
                        try clear hfz23_2
                        try clear hfz23_3
                        try clear hfz25_0
                        try clear hfz25_1
                        try clear hfz25_2
                        try clear hfz25_3
                        try clear hfz30_0
                        try clear hfz30_1
                        try clear hfz30_2
                        try clear hfz30_3
                        try clear hfz34_0
                        try clear hfz34_1
                        try clear hfz34_2
                        try clear hfz34_3
                        try clear hfz35_0
                        try clear hfz35_1
                        try clear hfz35_2
                        try clear hfz38_0
                        try clear hfz38_1
                        try clear hfz38_2
                        try clear hfz5_0
                        try clear hfz5_1
                        try clear hfz5_2
                        try clear hfz7_0
                        try clear hfz7_1
                        try clear hfz7_2
                        try clear hx166_0
                        try clear hx166_1
                        try clear hx166_2
                        try clear hx166_3
                        try clear p1
                        try clear p16
                        try clear p166
                        try clear p2
                        try clear p6
                        try clear q1
                        try clear q16
                        try clear q166
                        obtain ⟨x9_4, rfl, HA, HK4, BK164, HB, HM⟩ := hrel
                        cases gk with
                        | zero => exact absurd HA.out (by simp [impl_FirstRing.l3])
                        | succ k4 =>
                          have H := HA.out
                          clear HA
                          simp only [impl_FirstRing.l3] at H
                          by_cases c39 : x9_4 < a0_0
                          · rw [if_pos c39] at H
                            have c39b0 : decide (x9_4 < a0_0) = true := decide_eq_true c39
                            clear c39
                            by_cases c40 : x8_3 = x9_4
                            · rw [if_pos c40] at H
                              have c40b0 : (x8_3 == x9_4) = true := beq_iff_eq.mpr c40
                              have c40b1 : (x8_3 != x9_4) = false := bne_eq_false_iff_eq.mpr c40
                              clear c40
                              have H' := Aside0.mk H
                              clear H
                              have hcz41_0 : wr.cell? ⟨gb164, 0, none⟩ = some (.int .i64 a0_0) := (blk_cell BK164.out 0).trans rfl
                              have hcz41_1 : wr.cell? ⟨gb164, 1, none⟩ = some (.int .i64 a0_1) := (blk_cell BK164.out 1).trans rfl
                              have hcz41_2 : wr.cell? ⟨gb164, 2, none⟩ = some (.slice A0_2 l0_2.length c0_2) := (blk_cell BK164.out 2).trans rfl
                              have hfz41_0 := blk_frozen BK164.out 0
                              have hfz41_1 := blk_frozen BK164.out 1
                              have hfz41_2 := blk_frozen BK164.out 2
                              go_wp2
                              go_roundg k4
                              case measure => have := HK1.out; have := HK2.out; have := HK3.out; have := HK4.out; omega
                              case rel => exact ⟨(wrap64 (x9_4 + 1)), (by first | rfl | (simp; done) | (simp [*]; done)), H', ⟨by have := HK1.out; have := HK2.out; have := HK3.out; have := HK4.out; omega⟩, ⟨by (with_reducible repeat (first | refine blk_drewN ?_ _ | refine blk_drew ?_ | refine blk_alloc ?_ _)); exact BK164.out⟩, ⟨by repeat (first | (with_reducible first | exact HB.out | apply below_alloc | apply pw_below_drewN | apply below_drew1 | refine below_set ?_ GE164.out) | exact HB.out)⟩, ⟨by (repeat (first | (with_reducible exact HM.out) | (with_reducible refine HasSet.drewN ?_ _) | (with_reducible refine HasSet.drew ?_) | (with_reducible refine HasSet.alloc ?_ _)))⟩⟩
                            · rw [if_neg c40] at H
                              have c40b0 : (x8_3 == x9_4) = false := beq_eq_false_iff_ne.mpr c40
                              have c40b1 : (x8_3 != x9_4) = true := bne_iff_ne.mpr c40
                              replace H := Option.bind_eq_some_iff.mp H
                              obtain ⟨t171, A420, H⟩ := H
                              replace H : (if t171 = true then ((beatHas.f l0_2 x8_3 x9_4).bind fun t172 => (if t172 = true then ((beatHas.f l0_2 x9_4 x46_2).bind fun t173 => (if t173 = true then (some ((([x46_2, x8_3, x9_4] : List Int)), true)) else (impl_FirstRing.l3 k4 x46_2 x8_3 (wrap64 (x9_4 + 1)) l0_2 a0_0 x46_2 a0_0 a0_1 l0_2))) else (impl_FirstRing.l3 k4 x46_2 x8_3 (wrap64 (x9_4 + 1)) l0_2 a0_0 x46_2 a0_0 a0_1 l0_2))) else (impl_FirstRing.l3 k4 x46_2 x8_3 (wrap64 (x9_4 + 1)) l0_2 a0_0 x46_2 a0_0 a0_1 l0_2)) = some (r1, r2) := H
                              have A42 := Aside0.mk A420
                              clear A420
                              by_cases c43 : t171 = true
                              · subst c43
                                have H1 : ((beatHas.f l0_2 x8_3 x9_4).bind fun t172 => (if t172 = true then ((beatHas.f l0_2 x9_4 x46_2).bind fun t173 => (if t173 = true then (some ((([x46_2, x8_3, x9_4] : List Int)), true)) else (impl_FirstRing.l3 k4 x46_2 x8_3 (wrap64 (x9_4 + 1)) l0_2 a0_0 x46_2 a0_0 a0_1 l0_2))) else (impl_FirstRing.l3 k4 x46_2 x8_3 (wrap64 (x9_4 + 1)) l0_2 a0_0 x46_2 a0_0 a0_1 l0_2))) = some (r1, r2) := by rw [if_pos rfl] at H; exact H
                                clear H
                                have H := H1
                                clear H1
                                replace H := Option.bind_eq_some_iff.mp H
                                obtain ⟨t172, A440, H⟩ := H
                                replace H : (if t172 = true then ((beatHas.f l0_2 x9_4 x46_2).bind fun t173 => (if t173 = true then (some ((([x46_2, x8_3, x9_4] : List Int)), true)) else (impl_FirstRing.l3 k4 x46_2 x8_3 (wrap64 (x9_4 + 1)) l0_2 a0_0 x46_2 a0_0 a0_1 l0_2))) else (impl_FirstRing.l3 k4 x46_2 x8_3 (wrap64 (x9_4 + 1)) l0_2 a0_0 x46_2 a0_0 a0_1 l0_2)) = some (r1, r2) := H
                                have A44 := Aside0.mk A440
                                clear A440
                                by_cases c45 : t172 = true
                                · subst c45
                                  have H1 : ((beatHas.f l0_2 x9_4 x46_2).bind fun t173 => (if t173 = true then (some ((([x46_2, x8_3, x9_4] : List Int)), true)) else (impl_FirstRing.l3 k4 x46_2 x8_3 (wrap64 (x9_4 + 1)) l0_2 a0_0 x46_2 a0_0 a0_1 l0_2))) = some (r1, r2) := by rw [if_pos rfl] at H; exact H
                                  clear H
                                  have H := H1
                                  clear H1
                                  replace H := Option.bind_eq_some_iff.mp H
                                  obtain ⟨t173, A460, H⟩ := H
                                  replace H : (if t173 = true then (some ((([x46_2, x8_3, x9_4] : List Int)), true)) else (impl_FirstRing.l3 k4 x46_2 x8_3 (wrap64 (x9_4 + 1)) l0_2 a0_0 x46_2 a0_0 a0_1 l0_2)) = some (r1, r2) := H
                                  have A46 := Aside0.mk A460
                                  clear A460
                                  by_cases c47 : t173 = true
                                  · subst c47
                                    have H1 : (some ((([x46_2, x8_3, x9_4] : List Int)), true)) = some (r1, r2) := by rw [if_pos rfl] at H; exact H
                                    clear H
                                    have H := H1
                                    clear H1
                                    obtain ⟨y174, hy174⟩ : ∃ y_ : List Int, y_ = (([x46_2, x8_3, x9_4] : List Int)) := ⟨_, rfl⟩
                                    replace H : (some (y174, true)) = some (r1, r2) := by first | (rw [hy174]; with_reducible exact H) | (have H2_ := (Option.bind_some _ _).symm.trans H; rw [hy174]; with_reducible exact H2_) | (have H2_ := (Option.bind_some _ _).symm.trans H; with_reducible exact H2_) | with_reducible exact H | (rw [hy174]; exact H) | exact H
                                    have Ny174 := Aside0.mk hy174
                                    clear hy174
                                    simp only [Option.some.injEq, Prod.mk.injEq] at H
                                    obtain ⟨rfl, rfl⟩ := H
                                    have hcz48_0 : wr.cell? ⟨gb164, 0, none⟩ = some (.int .i64 a0_0) := (blk_cell BK164.out 0).trans rfl
                                    have hcz48_1 : wr.cell? ⟨gb164, 1, none⟩ = some (.int .i64 a0_1) := (blk_cell BK164.out 1).trans rfl
                                    have hcz48_2 : wr.cell? ⟨gb164, 2, none⟩ = some (.slice A0_2 l0_2.length c0_2) := (blk_cell BK164.out 2).trans rfl
                                    have hfz48_0 := blk_frozen BK164.out 0
                                    have hfz48_1 := blk_frozen BK164.out 1
                                    have hfz48_2 := blk_frozen BK164.out 2
                                    go_wp2_with (first | ((with_reducible refine gate_dst (N := 73) rfl ?_); (try (refine gate_guard (by rfl) ?_; dsimp only)); refine look_arm rfl rfl (b := bm) (s := beatL l0_2 (l0_2.length : Int)) (p := x46_2) (q := x8_3) ?hm ?hx ?hp ?hq ?hM (t := true) ?ht ?_; (case hm => first | rfl | (go_simp; done)); (case hx => first | rfl | (go_simp; done)); (case hp => exact (beatHas_inv A42.out).1.1); (case hq => exact (beatHas_inv A42.out).1.2); (case hM => (repeat (first | (with_reducible exact HM.out) | (with_reducible refine HasSet.drewN ?_ _) | (with_reducible refine HasSet.drew ?_) | (with_reducible refine HasSet.alloc ?_ _)))); (case ht => exact (beatHas_inv A42.out).2)) | ((with_reducible refine gate_dst (N := 80) rfl ?_); (try (refine gate_guard (by rfl) ?_; dsimp only)); refine look_arm rfl rfl (b := bm) (s := beatL l0_2 (l0_2.length : Int)) (p := x8_3) (q := x9_4) ?hm ?hx ?hp ?hq ?hM (t := true) ?ht ?_; (case hm => first | rfl | (go_simp; done)); (case hx => first | rfl | (go_simp; done)); (case hp => exact (beatHas_inv A44.out).1.1); (case hq => exact (beatHas_inv A44.out).1.2); (case hM => (repeat (first | (with_reducible exact HM.out) | (with_reducible refine HasSet.drewN ?_ _) | (with_reducible refine HasSet.drew ?_) | (with_reducible refine HasSet.alloc ?_ _)))); (case ht => exact (beatHas_inv A44.out).2)) | ((with_reducible refine gate_dst (N := 87) rfl ?_); (try (refine gate_guard (by rfl) ?_; dsimp only)); refine look_arm rfl rfl (b := bm) (s := beatL l0_2 (l0_2.length : Int)) (p := x9_4) (q := x46_2) ?hm ?hx ?hp ?hq ?hM (t := true) ?ht ?_; (case hm => first | rfl | (go_simp; done)); (case hx => first | rfl | (go_simp; done)); (case hp => exact (beatHas_inv A46.out).1.1); (case hq => exact (beatHas_inv A46.out).1.2); (case hM => (repeat (first | (with_reducible exact HM.out) | (with_reducible refine HasSet.drewN ?_ _) | (with_reducible refine HasSet.drew ?_) | (with_reducible refine HasSet.alloc ?_ _)))); (case ht => exact (beatHas_inv A46.out).2)) | ((with_reducible refine gate_dst (N := 92) rfl ?_); refine Kd.R_lit (Kd.int .i64) _ 3 ?hg (N := 92) ?hd (xs := ([x46_2, x8_3, x9_4] : List Int)) (inner := [.int .i64 x46_2, .int .i64 x8_3, .int .i64 x9_4]) (ok := fun _ => True) (okp := fun _ => True) ?hr ?hp (fun _ hk => hk) trivial (Below.refl _ _) (Nat.le_refl _) (by simp) ?_; (case hd => rfl); (case hg => rfl); (case hr => first | (go_simp; done) | (go_simp; rfl)); (case hp => exact (Reps.one (show Kd.M (Kd.int .i64) _ _ _ x46_2 [.int .i64 x46_2] from rfl) (Reps.one (show Kd.M (Kd.int .i64) _ _ _ x8_3 [.int .i64 x8_3] from rfl) (Reps.one (show Kd.M (Kd.int .i64) _ _ _ x9_4 [.int .i64 x9_4] from rfl) (Reps.none _ _))))); intro v175 w52 ho53 hb hg_ hnew_; clear hg_ hnew_; (first | rw [← Ny174.out] at ho53 | (simp only [Int.reduceToNat] at ho53; rw [← Ny174.out] at ho53)); have n0_ := Aside0.mk (Kd.R_lower ho53 (below_size (by repeat (first | (with_reducible first | exact HB.out | apply below_alloc | apply pw_below_drewN | apply below_drew1 | refine below_set ?_ GE164.out) | exact HB.out)))); have n1_ := Aside0.mk (blk_below (g := gb164) (o := .cells #[.int .i64 a0_0, .int .i64 a0_1, .slice A0_2 l0_2.length c0_2] 35 (0, 0)) (by (with_reducible repeat (first | refine blk_drewN ?_ _ | refine blk_drew ?_ | refine blk_alloc ?_ _)); exact BK164.out) hb); have n2_ := Aside0.mk (below_step (by repeat (first | (with_reducible first | exact HB.out | apply below_alloc | apply pw_below_drewN | apply below_drew1 | refine below_set ?_ GE164.out) | exact HB.out)) hb); clear BK164; clear HB; have HO176 := n0_; have BK164 := n1_; have HB := n2_; clear n0_ n1_ n2_; clear hb ho53))
                                    go_ret2
                                    exact ⟨_, by first | rfl | (simp [errW_none, errW_some] <;> rfl) | (simp [*, errW_none, errW_some] <;> rfl), by (with_reducible repeat (first | apply Kd.R_alloc | apply Kd.R_drewN | apply Kd.R_drew)); exact HO176.out, by repeat (first | (with_reducible first | exact HB.out | apply below_alloc | apply pw_below_drewN | apply below_drew1 | refine below_set ?_ GE164.out) | exact HB.out)⟩
                                  · replace c47 := Bool.eq_false_iff.mpr c47
                                    subst c47
                                    have H1 : (impl_FirstRing.l3 k4 x46_2 x8_3 (wrap64 (x9_4 + 1)) l0_2 a0_0 x46_2 a0_0 a0_1 l0_2) = some (r1, r2) := by rw [if_neg (show ¬ (false = true) by decide)] at H; exact H
                                    clear H
                                    have H := H1
                                    clear H1
                                    have H' := Aside0.mk H
                                    clear H
                                    have hcz54_0 : wr.cell? ⟨gb164, 0, none⟩ = some (.int .i64 a0_0) := (blk_cell BK164.out 0).trans rfl
                                    have hcz54_1 : wr.cell? ⟨gb164, 1, none⟩ = some (.int .i64 a0_1) := (blk_cell BK164.out 1).trans rfl
                                    have hcz54_2 : wr.cell? ⟨gb164, 2, none⟩ = some (.slice A0_2 l0_2.length c0_2) := (blk_cell BK164.out 2).trans rfl
                                    have hfz54_0 := blk_frozen BK164.out 0
                                    have hfz54_1 := blk_frozen BK164.out 1
                                    have hfz54_2 := blk_frozen BK164.out 2
                                    go_wp2_with (first | ((with_reducible refine gate_dst (N := 73) rfl ?_); (try (refine gate_guard (by rfl) ?_; dsimp only)); refine look_arm rfl rfl (b := bm) (s := beatL l0_2 (l0_2.length : Int)) (p := x46_2) (q := x8_3) ?hm ?hx ?hp ?hq ?hM (t := true) ?ht ?_; (case hm => first | rfl | (go_simp; done)); (case hx => first | rfl | (go_simp; done)); (case hp => exact (beatHas_inv A42.out).1.1); (case hq => exact (beatHas_inv A42.out).1.2); (case hM => (repeat (first | (with_reducible exact HM.out) | (with_reducible refine HasSet.drewN ?_ _) | (with_reducible refine HasSet.drew ?_) | (with_reducible refine HasSet.alloc ?_ _)))); (case ht => exact (beatHas_inv A42.out).2)) | ((with_reducible refine gate_dst (N := 80) rfl ?_); (try (refine gate_guard (by rfl) ?_; dsimp only)); refine look_arm rfl rfl (b := bm) (s := beatL l0_2 (l0_2.length : Int)) (p := x8_3) (q := x9_4) ?hm ?hx ?hp ?hq ?hM (t := true) ?ht ?_; (case hm => first | rfl | (go_simp; done)); (case hx => first | rfl | (go_simp; done)); (case hp => exact (beatHas_inv A44.out).1.1); (case hq => exact (beatHas_inv A44.out).1.2); (case hM => (repeat (first | (with_reducible exact HM.out) | (with_reducible refine HasSet.drewN ?_ _) | (with_reducible refine HasSet.drew ?_) | (with_reducible refine HasSet.alloc ?_ _)))); (case ht => exact (beatHas_inv A44.out).2)) | ((with_reducible refine gate_dst (N := 87) rfl ?_); (try (refine gate_guard (by rfl) ?_; dsimp only)); refine look_arm rfl rfl (b := bm) (s := beatL l0_2 (l0_2.length : Int)) (p := x9_4) (q := x46_2) ?hm ?hx ?hp ?hq ?hM (t := false) ?ht ?_; (case hm => first | rfl | (go_simp; done)); (case hx => first | rfl | (go_simp; done)); (case hp => exact (beatHas_inv A46.out).1.1); (case hq => exact (beatHas_inv A46.out).1.2); (case hM => (repeat (first | (with_reducible exact HM.out) | (with_reducible refine HasSet.drewN ?_ _) | (with_reducible refine HasSet.drew ?_) | (with_reducible refine HasSet.alloc ?_ _)))); (case ht => exact (beatHas_inv A46.out).2)))
                                    go_roundg k4
                                    case measure => have := HK1.out; have := HK2.out; have := HK3.out; have := HK4.out; omega
                                    case rel => exact ⟨(wrap64 (x9_4 + 1)), (by first | rfl | (simp; done) | (simp [*]; done)), H', ⟨by have := HK1.out; have := HK2.out; have := HK3.out; have := HK4.out; omega⟩, ⟨by (with_reducible repeat (first | refine blk_drewN ?_ _ | refine blk_drew ?_ | refine blk_alloc ?_ _)); exact BK164.out⟩, ⟨by repeat (first | (with_reducible first | exact HB.out | apply below_alloc | apply pw_below_drewN | apply below_drew1 | refine below_set ?_ GE164.out) | exact HB.out)⟩, ⟨by (repeat (first | (with_reducible exact HM.out) | (with_reducible refine HasSet.drewN ?_ _) | (with_reducible refine HasSet.drew ?_) | (with_reducible refine HasSet.alloc ?_ _)))⟩⟩
                                · replace c45 := Bool.eq_false_iff.mpr c45
                                  subst c45
                                  have H1 : (impl_FirstRing.l3 k4 x46_2 x8_3 (wrap64 (x9_4 + 1)) l0_2 a0_0 x46_2 a0_0 a0_1 l0_2) = some (r1, r2) := by rw [if_neg (show ¬ (false = true) by decide)] at H; exact H
                                  clear H
                                  have H := H1
                                  clear H1
                                  have H' := Aside0.mk H
                                  clear H
                                  have hcz58_0 : wr.cell? ⟨gb164, 0, none⟩ = some (.int .i64 a0_0) := (blk_cell BK164.out 0).trans rfl
                                  have hcz58_1 : wr.cell? ⟨gb164, 1, none⟩ = some (.int .i64 a0_1) := (blk_cell BK164.out 1).trans rfl
                                  have hcz58_2 : wr.cell? ⟨gb164, 2, none⟩ = some (.slice A0_2 l0_2.length c0_2) := (blk_cell BK164.out 2).trans rfl
                                  have hfz58_0 := blk_frozen BK164.out 0
                                  have hfz58_1 := blk_frozen BK164.out 1
                                  have hfz58_2 := blk_frozen BK164.out 2
                                  go_wp2_with (first | ((with_reducible refine gate_dst (N := 73) rfl ?_); (try (refine gate_guard (by rfl) ?_; dsimp only)); refine look_arm rfl rfl (b := bm) (s := beatL l0_2 (l0_2.length : Int)) (p := x46_2) (q := x8_3) ?hm ?hx ?hp ?hq ?hM (t := true) ?ht ?_; (case hm => first | rfl | (go_simp; done)); (case hx => first | rfl | (go_simp; done)); (case hp => exact (beatHas_inv A42.out).1.1); (case hq => exact (beatHas_inv A42.out).1.2); (case hM => (repeat (first | (with_reducible exact HM.out) | (with_reducible refine HasSet.drewN ?_ _) | (with_reducible refine HasSet.drew ?_) | (with_reducible refine HasSet.alloc ?_ _)))); (case ht => exact (beatHas_inv A42.out).2)) | ((with_reducible refine gate_dst (N := 80) rfl ?_); (try (refine gate_guard (by rfl) ?_; dsimp only)); refine look_arm rfl rfl (b := bm) (s := beatL l0_2 (l0_2.length : Int)) (p := x8_3) (q := x9_4) ?hm ?hx ?hp ?hq ?hM (t := false) ?ht ?_; (case hm => first | rfl | (go_simp; done)); (case hx => first | rfl | (go_simp; done)); (case hp => exact (beatHas_inv A44.out).1.1); (case hq => exact (beatHas_inv A44.out).1.2); (case hM => (repeat (first | (with_reducible exact HM.out) | (with_reducible refine HasSet.drewN ?_ _) | (with_reducible refine HasSet.drew ?_) | (with_reducible refine HasSet.alloc ?_ _)))); (case ht => exact (beatHas_inv A44.out).2)))
                                  go_roundg k4
                                  case measure => have := HK1.out; have := HK2.out; have := HK3.out; have := HK4.out; omega
                                  case rel => exact ⟨(wrap64 (x9_4 + 1)), (by first | rfl | (simp; done) | (simp [*]; done)), H', ⟨by have := HK1.out; have := HK2.out; have := HK3.out; have := HK4.out; omega⟩, ⟨by (with_reducible repeat (first | refine blk_drewN ?_ _ | refine blk_drew ?_ | refine blk_alloc ?_ _)); exact BK164.out⟩, ⟨by repeat (first | (with_reducible first | exact HB.out | apply below_alloc | apply pw_below_drewN | apply below_drew1 | refine below_set ?_ GE164.out) | exact HB.out)⟩, ⟨by (repeat (first | (with_reducible exact HM.out) | (with_reducible refine HasSet.drewN ?_ _) | (with_reducible refine HasSet.drew ?_) | (with_reducible refine HasSet.alloc ?_ _)))⟩⟩
                              · replace c43 := Bool.eq_false_iff.mpr c43
                                subst c43
                                have H1 : (impl_FirstRing.l3 k4 x46_2 x8_3 (wrap64 (x9_4 + 1)) l0_2 a0_0 x46_2 a0_0 a0_1 l0_2) = some (r1, r2) := by rw [if_neg (show ¬ (false = true) by decide)] at H; exact H
                                clear H
                                have H := H1
                                clear H1
                                have H' := Aside0.mk H
                                clear H
                                have hcz61_0 : wr.cell? ⟨gb164, 0, none⟩ = some (.int .i64 a0_0) := (blk_cell BK164.out 0).trans rfl
                                have hcz61_1 : wr.cell? ⟨gb164, 1, none⟩ = some (.int .i64 a0_1) := (blk_cell BK164.out 1).trans rfl
                                have hcz61_2 : wr.cell? ⟨gb164, 2, none⟩ = some (.slice A0_2 l0_2.length c0_2) := (blk_cell BK164.out 2).trans rfl
                                have hfz61_0 := blk_frozen BK164.out 0
                                have hfz61_1 := blk_frozen BK164.out 1
                                have hfz61_2 := blk_frozen BK164.out 2
                                go_wp2_with (first | ((with_reducible refine gate_dst (N := 73) rfl ?_); (try (refine gate_guard (by rfl) ?_; dsimp only)); refine look_arm rfl rfl (b := bm) (s := beatL l0_2 (l0_2.length : Int)) (p := x46_2) (q := x8_3) ?hm ?hx ?hp ?hq ?hM (t := false) ?ht ?_; (case hm => first | rfl | (go_simp; done)); (case hx => first | rfl | (go_simp; done)); (case hp => exact (beatHas_inv A42.out).1.1); (case hq => exact (beatHas_inv A42.out).1.2); (case hM => (repeat (first | (with_reducible exact HM.out) | (with_reducible refine HasSet.drewN ?_ _) | (with_reducible refine HasSet.drew ?_) | (with_reducible refine HasSet.alloc ?_ _)))); (case ht => exact (beatHas_inv A42.out).2)))
                                go_roundg k4
                                case measure => have := HK1.out; have := HK2.out; have := HK3.out; have := HK4.out; omega
                                case rel => exact ⟨(wrap64 (x9_4 + 1)), (by first | rfl | (simp; done) | (simp [*]; done)), H', ⟨by have := HK1.out; have := HK2.out; have := HK3.out; have := HK4.out; omega⟩, ⟨by (with_reducible repeat (first | refine blk_drewN ?_ _ | refine blk_drew ?_ | refine blk_alloc ?_ _)); exact BK164.out⟩, ⟨by repeat (first | (with_reducible first | exact HB.out | apply below_alloc | apply pw_below_drewN | apply below_drew1 | refine below_set ?_ GE164.out) | exact HB.out)⟩, ⟨by (repeat (first | (with_reducible exact HM.out) | (with_reducible refine HasSet.drewN ?_ _) | (with_reducible refine HasSet.drew ?_) | (with_reducible refine HasSet.alloc ?_ _)))⟩⟩
                          · rw [if_neg c39] at H
                            have c39b0 : decide (x9_4 < a0_0) = false := decide_eq_false c39
                            clear c39
                            have H' := Aside0.mk H
                            clear H
                            have hcz63_0 : wr.cell? ⟨gb164, 0, none⟩ = some (.int .i64 a0_0) := (blk_cell BK164.out 0).trans rfl
                            have hcz63_1 : wr.cell? ⟨gb164, 1, none⟩ = some (.int .i64 a0_1) := (blk_cell BK164.out 1).trans rfl
                            have hcz63_2 : wr.cell? ⟨gb164, 2, none⟩ = some (.slice A0_2 l0_2.length c0_2) := (blk_cell BK164.out 2).trans rfl
                            have hfz63_0 := blk_frozen BK164.out 0
                            have hfz63_1 := blk_frozen BK164.out 1
                            have hfz63_2 := blk_frozen BK164.out 2
                            go_wp2
                            go_roundg k4
                            case measure => have := HK1.out; have := HK2.out; have := HK3.out; have := HK4.out; omega
                            case rel => exact ⟨(wrap64 (x8_3 + 1)), (by first | rfl | (simp; done) | (simp [*]; done)), H', ⟨by have := HK1.out; have := HK2.out; have := HK3.out; have := HK4.out; omega⟩, ⟨by (with_reducible repeat (first | refine blk_drewN ?_ _ | refine blk_drew ?_ | refine blk_alloc ?_ _)); exact BK164.out⟩, ⟨by repeat (first | (with_reducible first | exact HB.out | apply below_alloc | apply pw_below_drewN | apply below_drew1 | refine below_set ?_ GE164.out) | exact HB.out)⟩, ⟨by (repeat (first | (with_reducible exact HM.out) | (with_reducible refine HasSet.drewN ?_ _) | (with_reducible refine HasSet.drew ?_) | (with_reducible refine HasSet.alloc ?_ _)))⟩⟩
                    · rw [if_neg c37] at H
                      have c37b0 : decide (x8_3 < a0_0) = false := decide_eq_false c37
                      clear c37
                      have H' := Aside0.mk H
                      clear H
                      have hcz64_0 : wr.cell? ⟨gb164, 0, none⟩ = some (.int .i64 a0_0) := (blk_cell BK164.out 0).trans rfl
                      have hcz64_1 : wr.cell? ⟨gb164, 1, none⟩ = some (.int .i64 a0_1) := (blk_cell BK164.out 1).trans rfl
                      have hcz64_2 : wr.cell? ⟨gb164, 2, none⟩ = some (.slice A0_2 l0_2.length c0_2) := (blk_cell BK164.out 2).trans rfl
                      have hfz64_0 := blk_frozen BK164.out 0
                      have hfz64_1 := blk_frozen BK164.out 1
                      have hfz64_2 := blk_frozen BK164.out 2
                      go_wp2
                      go_roundg k3
                      case measure => have := HK1.out; have := HK2.out; have := HK3.out; omega
                      case rel => exact ⟨(wrap64 (x46_2 + 1)), (by first | rfl | (simp; done) | (simp [*]; done)), H', ⟨by have := HK1.out; have := HK2.out; have := HK3.out; omega⟩, ⟨by (with_reducible repeat (first | refine blk_drewN ?_ _ | refine blk_drew ?_ | refine blk_alloc ?_ _)); exact BK164.out⟩, ⟨by repeat (first | (with_reducible first | exact HB.out | apply below_alloc | apply pw_below_drewN | apply below_drew1 | refine below_set ?_ GE164.out) | exact HB.out)⟩, ⟨by (repeat (first | (with_reducible exact HM.out) | (with_reducible refine HasSet.drewN ?_ _) | (with_reducible refine HasSet.drew ?_) | (with_reducible refine HasSet.alloc ?_ _)))⟩⟩
              · rw [if_neg c36] at H
                have c36b0 : decide (x46_2 < a0_0) = false := decide_eq_false c36
                clear c36
                simp only [Option.some.injEq, Prod.mk.injEq] at H
                obtain ⟨rfl, rfl⟩ := H
                go_wp2
                go_ret2
                exact ⟨_, by first | rfl | (simp [errW_none, errW_some] <;> rfl) | (simp [*, errW_none, errW_some] <;> rfl), by first | exact Kd.R_nil _ _ _ _ _ | exact Kd.N_nil _ _ _ _ _ | exact Kd.V_nil _ _ _ _ _ | exact Kd.Q_nil _ _ _ _ _ | exact Kd.S_nil _ _ _ _ _, by repeat (first | (with_reducible first | exact HB.out | apply below_alloc | apply pw_below_drewN | apply below_drew1 | refine below_set ?_ GE164.out) | exact HB.out)⟩
  · replace c3 := Bool.eq_false_iff.mpr c3
    subst c3
    have H1 : (some (([] : List Int), false)) = some (r1, r2) := by rw [if_neg (show ¬ (false = true) by decide)] at H; exact H
    clear H
    have H := H1
    clear H1
    simp only [Option.some.injEq, Prod.mk.injEq] at H
    obtain ⟨rfl, rfl⟩ := H
    go_enter Try.func41, Try.ntmps41
    go_wp2_with (first | ((with_reducible refine gate_dst (N := 1) rfl ?_); refine box_event ?hg (N := 1) ?hd (cs := #[.int .i64 a0_0, .int .i64 a0_1, .slice A0_2 l0_2.length c0_2]) (t := 35) ?hr ?_; (case hd => rfl); (case hg => rfl); (case hr => first | (go_simp; done) | (go_simp; rfl)); intro gb164 hg w65 hbox hb; have n0_ := Aside0.mk (below_step (by repeat (first | (with_reducible first | exact HB.out | apply below_alloc | apply pw_below_drewN | apply below_drew1) | exact HB.out)) hb); have n1_ := Aside0.mk (hbox); have n2_ := Aside0.mk ((by rw [hg]; exact (below_size (by repeat (first | (with_reducible first | exact HB.out | apply below_alloc | apply pw_below_drewN | apply below_drew1) | exact HB.out))) : w.heap.size ≤ gb164)); have n3_ := Aside0.mk ((by rw [hg]; exact (below_size (by repeat (first | (with_reducible first | exact HB.out | apply below_alloc | apply pw_below_drewN | apply below_drew1) | exact HB.out))) : w.heap.size ≤ gb164)); clear HB; have HB := n0_; have BK164 := n1_; have GW164 := n2_; have GE164 := n3_; clear n0_ n1_ n2_ n3_; clear hb hbox hg; have hcz66_0 : w65.cell? ⟨gb164, 0, none⟩ = some (.int .i64 a0_0) := (blk_cell BK164.out 0).trans rfl; have hcz66_1 : w65.cell? ⟨gb164, 1, none⟩ = some (.int .i64 a0_1) := (blk_cell BK164.out 1).trans rfl; have hcz66_2 : w65.cell? ⟨gb164, 2, none⟩ = some (.slice A0_2 l0_2.length c0_2) := (blk_cell BK164.out 2).trans rfl; have hfz66_0 := blk_frozen BK164.out 0; have hfz66_1 := blk_frozen BK164.out 1; have hfz66_2 := blk_frozen BK164.out 2) | ((with_reducible refine gate_callee (f := 23) rfl ?_); refine goesL_ (some 11) rfl rfl Try.func23 (by kernel_rfl) rfl #[.agg #[.int .i64 a0_0, .int .i64 a0_1, .slice A0_2 l0_2.length c0_2]] rfl (by (try simp only [List.map_toArray, List.map_cons, List.map_nil]); first | done | rfl | (simp only [List.length_drop, List.length_take]; rfl)) ?_; (with_reducible refine (impl_IsLeague.calls k a0_0 a0_1 _ _ l0_2 false _ ?side1 ?side2 A2.out).mono ?_); (case side1 => repeat (first | exact (Kd.C_below HR0_2.out HB.out) | (with_reducible refine Kd.C_alloc ?_ _) | (with_reducible refine Kd.C_drewN ?_ _) | (with_reducible refine Kd.C_drew ?_))); (case side2 => exact HC0_2.out); rintro e w67 ⟨rfl, hb⟩; refine ⟨_, rfl, ?_⟩; have n0_ := Aside0.mk (blk_below (g := gb164) (o := .cells #[.int .i64 a0_0, .int .i64 a0_1, .slice A0_2 l0_2.length c0_2] 35 (0, 0)) (by (with_reducible repeat (first | refine blk_drewN ?_ _ | refine blk_drew ?_ | refine blk_alloc ?_ _)); exact BK164.out) hb); have n1_ := Aside0.mk (below_step (by repeat (first | (with_reducible first | exact HB.out | apply below_alloc | apply pw_below_drewN | apply below_drew1 | refine below_set ?_ GE164.out) | exact HB.out)) hb); clear BK164; clear HB; have BK164 := n0_; have HB := n1_; clear n0_ n1_; (try clear hb); (try clear hb2); (try clear hk); (try clear hi)))
    go_ret2
    exact ⟨_, by first | rfl | (simp [errW_none, errW_some] <;> rfl) | (simp [*, errW_none, errW_some] <;> rfl), by first | exact Kd.R_nil _ _ _ _ _ | exact Kd.N_nil _ _ _ _ _ | exact Kd.V_nil _ _ _ _ _ | exact Kd.Q_nil _ _ _ _ _ | exact Kd.S_nil _ _ _ _ _, by repeat (first | (with_reducible first | exact HB.out | apply below_alloc | apply pw_below_drewN | apply below_drew1 | refine below_set ?_ GE164.out) | exact HB.out)⟩

end Go.Proofs.Ytolcneiniojdfaa.QFnExactFirstRing
