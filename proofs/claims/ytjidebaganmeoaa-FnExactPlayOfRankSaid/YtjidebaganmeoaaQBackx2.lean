-- Written by a program of this session (wip/tools/gprint.sh) out of the translation, with some contracts given by hand.
import Derived.Test.YtjidebaganmeoaaQBackx0
import Derived.Test.YtjidebaganmeoaaQBackx1
import Derived.Test.YtjidebaganmeoaaGRow2
namespace Go.Proofs.Ytjidebaganmeoaa.QBack
open Go.RowKit Go.Proofs.YtjidebaganmeoaaW.PrintWords Go.Proofs.YtjidebaganmeoaaW.PrintLast Go.Proofs.YtjidebaganmeoaaW.PrintMore Go.Proofs.Ytjidebaganmeoaa.GRow
attribute [local go_sem] max2_int min2_int max_two min_two max_three min_three max_four min_four   -- for this text's walks alone
set_option linter.unusedVariables false
set_option linter.unusedSimpArgs false

/-! ### spec_raBack: function 50 -/
mutual
def spec_raBack.l0 : Nat → Int → Int → List (List Int) → Int → Int → Int → Option ((List (List Int)))
  | 0, _, _, _, _, _, _ => none
  | k + 1, x1, x2, x7, x8, x103000, x103001 => if x8 ≤ x1 then (if 0 ≤ (wrap64 (x2 + 1)) then (if (wrap64 (x2 + 1) : Int).toNat ≤ 35184372088832 then (if x7.length < 5864062014805 then (spec_raBack.l0 k x1 x2 (x7 ++ [(List.replicate (wrap64 (x2 + 1) : Int).toNat 0)]) (wrap64 (x8 + 1)) x103000 x103001) else (none)) else (none)) else (none)) else (spec_raBack.l1 k x1 x2 x7 x1 x103000 x103001)
def spec_raBack.l1 : Nat → Int → Int → List (List Int) → Int → Int → Int → Option ((List (List Int)))
  | 0, _, _, _, _, _, _ => none
  | k + 1, x1, x2, x7, x9, x103000, x103001 => if x9 ≥ 0 then (if 0 ≤ x9 then (if x9 < (x7.length : Int) then (spec_raBack.l2 k x1 x2 x7 x9 x2 x103000 x103001) else (none)) else (none)) else (some x7)
def spec_raBack.l2 : Nat → Int → Int → List (List Int) → Int → Int → Int → Int → Option ((List (List Int)))
  | 0, _, _, _, _, _, _, _ => none
  | k + 1, x1, x2, x7, x9, x11, x103000, x103001 => if x11 ≥ 0 then (if x9 = x1 then (spec_raBack.j3 k x1 x2 x7 x9 x11 (x11 == x2) x103000 x103001) else (spec_raBack.j3 k x1 x2 x7 x9 x11 false x103000 x103001)) else (spec_raBack.l1 k x1 x2 x7 (wrap64 (x9 - 1)) x103000 x103001)
def spec_raBack.j3 : Nat → Int → Int → List (List Int) → Int → Int → Bool → Int → Int → Option ((List (List Int)))
  | 0, _, _, _, _, _, _, _, _ => none
  | k + 1, x1, x2, x7, x9, x11, x66, x103000, x103001 => if x66 = true then (if 0 ≤ x9 then (if x9 < (x7.length : Int) then (if 0 ≤ x11 then (if x11 < ((rd_L1 x7 x9).length : Int) then (spec_raBack.l2 k x1 x2 (x7.set (x9 : Int).toNat ((rd_L1 x7 x9).set (x11 : Int).toNat 1)) x9 (wrap64 (x11 - 1)) x103000 x103001) else (none)) else (none)) else (none)) else (none)) else ((spec_raWon.f k x103000 x103001 x9 x11).bind fun t114 => (if t114 = 0 then (if x9 < x1 then (if 0 ≤ (wrap64 (x9 + 1)) then (if (wrap64 (x9 + 1)) < (x7.length : Int) then (if 0 ≤ x11 then (if x11 < ((rd_L1 x7 (wrap64 (x9 + 1))).length : Int) then (if x11 < x2 then (if 0 ≤ x9 then (if x9 < (x7.length : Int) then (if 0 ≤ (wrap64 (x11 + 1)) then (if (wrap64 (x11 + 1)) < ((rd_L1 x7 x9).length : Int) then ((spec_l1Least.f (wrap64 ((wrap64 (0 + (rd (rd_L1 x7 (wrap64 (x9 + 1))) x11))) + (rd (rd_L1 x7 x9) (wrap64 (x11 + 1))))) 1000000000000001).bind fun t120 => (if x11 < ((rd_L1 x7 x9).length : Int) then (spec_raBack.l2 k x1 x2 (x7.set (x9 : Int).toNat ((rd_L1 x7 x9).set (x11 : Int).toNat t120)) x9 (wrap64 (x11 - 1)) x103000 x103001) else (none))) else (none)) else (none)) else (none)) else (none)) else (if 0 ≤ x9 then (if x9 < (x7.length : Int) then ((spec_l1Least.f (wrap64 (0 + (rd (rd_L1 x7 (wrap64 (x9 + 1))) x11))) 1000000000000001).bind fun t125 => (if x11 < ((rd_L1 x7 x9).length : Int) then (spec_raBack.l2 k x1 x2 (x7.set (x9 : Int).toNat ((rd_L1 x7 x9).set (x11 : Int).toNat t125)) x9 (wrap64 (x11 - 1)) x103000 x103001) else (none))) else (none)) else (none))) else (none)) else (none)) else (none)) else (none)) else (if x11 < x2 then (if 0 ≤ x9 then (if x9 < (x7.length : Int) then (if 0 ≤ (wrap64 (x11 + 1)) then (if (wrap64 (x11 + 1)) < ((rd_L1 x7 x9).length : Int) then ((spec_l1Least.f (wrap64 (0 + (rd (rd_L1 x7 x9) (wrap64 (x11 + 1))))) 1000000000000001).bind fun t132 => (if 0 ≤ x11 then (if x11 < ((rd_L1 x7 x9).length : Int) then (spec_raBack.l2 k x1 x2 (x7.set (x9 : Int).toNat ((rd_L1 x7 x9).set (x11 : Int).toNat t132)) x9 (wrap64 (x11 - 1)) x103000 x103001) else (none)) else (none))) else (none)) else (none)) else (none)) else (none)) else (if 0 ≤ x9 then (if x9 < (x7.length : Int) then ((spec_l1Least.f 0 1000000000000001).bind fun t137 => (if 0 ≤ x11 then (if x11 < ((rd_L1 x7 x9).length : Int) then (spec_raBack.l2 k x1 x2 (x7.set (x9 : Int).toNat ((rd_L1 x7 x9).set (x11 : Int).toNat t137)) x9 (wrap64 (x11 - 1)) x103000 x103001) else (none)) else (none))) else (none)) else (none)))) else (spec_raBack.l2 k x1 x2 x7 x9 (wrap64 (x11 - 1)) x103000 x103001)))
end
def spec_raBack.f (k : Nat) (a0_0 : Int) (a0_1 : Int) (a1 : Int) (a2 : Int) : Option ((List (List Int))) := spec_raBack.l0 k a1 a2 ([] : List (List Int)) 0 a0_0 a0_1
theorem spec_raBack.mono_l : ∀ k, (∀ y0 y1 y2 y3 y4 y5, LeO (spec_raBack.l0 k y0 y1 y2 y3 y4 y5) (spec_raBack.l0 (k + 1) y0 y1 y2 y3 y4 y5)) ∧ (∀ y0 y1 y2 y3 y4 y5, LeO (spec_raBack.l1 k y0 y1 y2 y3 y4 y5) (spec_raBack.l1 (k + 1) y0 y1 y2 y3 y4 y5)) ∧ (∀ y0 y1 y2 y3 y4 y5 y6, LeO (spec_raBack.l2 k y0 y1 y2 y3 y4 y5 y6) (spec_raBack.l2 (k + 1) y0 y1 y2 y3 y4 y5 y6)) ∧ (∀ y0 y1 y2 y3 y4 y5 y6 y7, LeO (spec_raBack.j3 k y0 y1 y2 y3 y4 y5 y6 y7) (spec_raBack.j3 (k + 1) y0 y1 y2 y3 y4 y5 y6 y7))
  | 0 => ⟨fun _ _ _ _ _ _ r h => by simp [spec_raBack.l0] at h, fun _ _ _ _ _ _ r h => by simp [spec_raBack.l1] at h, fun _ _ _ _ _ _ _ r h => by simp [spec_raBack.l2] at h, fun _ _ _ _ _ _ _ _ r h => by simp [spec_raBack.j3] at h⟩
  | k + 1 => by
    obtain ⟨ih0, ih1, ih2, ih3⟩ := spec_raBack.mono_l k
    refine ⟨?_, ?_, ?_, ?_⟩
    · intro y0 y1 y2 y3 y4 y5
      unfold spec_raBack.l0
      repeat' first
      | (with_reducible exact ih0 _ _ _ _ _ _)
      | (with_reducible exact ih1 _ _ _ _ _ _)
      | (with_reducible exact ih2 _ _ _ _ _ _ _)
      | (with_reducible exact ih3 _ _ _ _ _ _ _ _)
      | (with_reducible exact spec_raWon.mono _ _ _ _ _)
      | (with_reducible exact LeO.refl _)
      | (with_reducible exact LeO.none _)
      | (with_reducible refine LeO.ite ?_ ?_)
      | (with_reducible refine LeO.bind ?_ (fun _ => ?_))
      | exact ih0 _ _ _ _ _ _
      | exact ih1 _ _ _ _ _ _
      | exact ih2 _ _ _ _ _ _ _
      | exact ih3 _ _ _ _ _ _ _ _
      | exact spec_raWon.mono _ _ _ _ _
      | exact LeO.none _
      | refine LeO.ite ?_ ?_
      | refine LeO.bind ?_ (fun _ => ?_)
    · intro y0 y1 y2 y3 y4 y5
      unfold spec_raBack.l1
      repeat' first
      | (with_reducible exact ih0 _ _ _ _ _ _)
      | (with_reducible exact ih1 _ _ _ _ _ _)
      | (with_reducible exact ih2 _ _ _ _ _ _ _)
      | (with_reducible exact ih3 _ _ _ _ _ _ _ _)
      | (with_reducible exact spec_raWon.mono _ _ _ _ _)
      | (with_reducible exact LeO.refl _)
      | (with_reducible exact LeO.none _)
      | (with_reducible refine LeO.ite ?_ ?_)
      | (with_reducible refine LeO.bind ?_ (fun _ => ?_))
      | exact ih0 _ _ _ _ _ _
      | exact ih1 _ _ _ _ _ _
      | exact ih2 _ _ _ _ _ _ _
      | exact ih3 _ _ _ _ _ _ _ _
      | exact spec_raWon.mono _ _ _ _ _
      | exact LeO.none _
      | refine LeO.ite ?_ ?_
      | refine LeO.bind ?_ (fun _ => ?_)
    · intro y0 y1 y2 y3 y4 y5 y6
      unfold spec_raBack.l2
      repeat' first
      | (with_reducible exact ih0 _ _ _ _ _ _)
      | (with_reducible exact ih1 _ _ _ _ _ _)
      | (with_reducible exact ih2 _ _ _ _ _ _ _)
      | (with_reducible exact ih3 _ _ _ _ _ _ _ _)
      | (with_reducible exact spec_raWon.mono _ _ _ _ _)
      | (with_reducible exact LeO.refl _)
      | (with_reducible exact LeO.none _)
      | (with_reducible refine LeO.ite ?_ ?_)
      | (with_reducible refine LeO.bind ?_ (fun _ => ?_))
      | exact ih0 _ _ _ _ _ _
      | exact ih1 _ _ _ _ _ _
      | exact ih2 _ _ _ _ _ _ _
      | exact ih3 _ _ _ _ _ _ _ _
      | exact spec_raWon.mono _ _ _ _ _
      | exact LeO.none _
      | refine LeO.ite ?_ ?_
      | refine LeO.bind ?_ (fun _ => ?_)
    · intro y0 y1 y2 y3 y4 y5 y6 y7
      unfold spec_raBack.j3
      repeat' first
      | (with_reducible exact ih0 _ _ _ _ _ _)
      | (with_reducible exact ih1 _ _ _ _ _ _)
      | (with_reducible exact ih2 _ _ _ _ _ _ _)
      | (with_reducible exact ih3 _ _ _ _ _ _ _ _)
      | (with_reducible exact spec_raWon.mono _ _ _ _ _)
      | (with_reducible exact LeO.refl _)
      | (with_reducible exact LeO.none _)
      | (with_reducible refine LeO.ite ?_ ?_)
      | (with_reducible refine LeO.bind ?_ (fun _ => ?_))
      | exact ih0 _ _ _ _ _ _
      | exact ih1 _ _ _ _ _ _
      | exact ih2 _ _ _ _ _ _ _
      | exact ih3 _ _ _ _ _ _ _ _
      | exact spec_raWon.mono _ _ _ _ _
      | exact LeO.none _
      | refine LeO.ite ?_ ?_
      | refine LeO.bind ?_ (fun _ => ?_)
theorem spec_raBack.mono : ∀ a0 a1 a2 a3 k, LeO (spec_raBack.f k a0 a1 a2 a3) (spec_raBack.f (k + 1) a0 a1 a2 a3) := by
  intro a0 a1 a2 a3 k
  obtain ⟨ih0, ih1, ih2, ih3⟩ := spec_raBack.mono_l k
  unfold spec_raBack.f
  repeat' first
      | (with_reducible exact ih0 _ _ _ _ _ _)
      | (with_reducible exact ih1 _ _ _ _ _ _)
      | (with_reducible exact ih2 _ _ _ _ _ _ _)
      | (with_reducible exact ih3 _ _ _ _ _ _ _ _)
      | (with_reducible exact spec_raWon.mono _ _ _ _ _)
      | (with_reducible exact LeO.refl _)
      | (with_reducible exact LeO.none _)
      | (with_reducible refine LeO.ite ?_ ?_)
      | (with_reducible refine LeO.bind ?_ (fun _ => ?_))
      | exact ih0 _ _ _ _ _ _
      | exact ih1 _ _ _ _ _ _
      | exact ih2 _ _ _ _ _ _ _
      | exact ih3 _ _ _ _ _ _ _ _
      | exact spec_raWon.mono _ _ _ _ _
      | exact LeO.none _
      | refine LeO.ite ?_ ?_
      | refine LeO.bind ?_ (fun _ => ?_)
set_option maxHeartbeats 8000000 in
set_option maxRecDepth 100000 in
theorem spec_raBack.calls (k : Nat) (a0_0 : Int) (a0_1 : Int) (a1 : Int) (a2 : Int) (r : List (List Int)) (w : World) (h : spec_raBack.f k a0_0 a0_1 a1 a2 = some r) :
    Calls Try.prog 50 #[.agg #[.int .i64 a0_0, .int .i64 a0_1], .int .i64 a1, .int .i64 a2] w fun e w' => ∃ v0_ : Value, e = .returned (v0_) ∧ Kd.S (Kd.slice 3 (Kd.int .i64)) 52 w' w.heap.size (fun _ => True) v0_ r ∧ Below w.heap.size w w' := by
  have hu31 := Try.underlying31
  have HB := Aside0.mk (Below.refl w.heap.size w)
  have H : (spec_raBack.l0 k a1 a2 ([] : List (List Int)) 0 a0_0 a0_1) = some r := h
  clear h
  have H' := Aside0.mk H
  clear H
  go_enter Try.func50, Try.ntmps50
  go_wp2_with (first | ((with_reducible refine gate_dst (N := 3) rfl ?_); refine box_event ?hg (N := 3) ?hd (cs := #[.int .i64 a0_0, .int .i64 a0_1]) (t := 31) ?hr ?_; (case hd => rfl); (case hg => rfl); (case hr => first | (go_simp; done) | (go_simp; rfl)); intro gb102 hg w4 hbox hb; have n0_ := Aside0.mk (below_step (by repeat (first | (with_reducible first | exact HB.out | apply below_alloc | apply pw_below_drewN | apply below_drew1) | exact HB.out)) hb); have n1_ := Aside0.mk (hbox); have n2_ := Aside0.mk ((by rw [hg]; exact (below_size (by repeat (first | (with_reducible first | exact HB.out | apply below_alloc | apply pw_below_drewN | apply below_drew1) | exact HB.out))) : w.heap.size ≤ gb102)); have n3_ := Aside0.mk ((by rw [hg]; exact (below_size (by repeat (first | (with_reducible first | exact HB.out | apply below_alloc | apply pw_below_drewN | apply below_drew1) | exact HB.out))) : w.heap.size ≤ gb102)); clear HB; have HB := n0_; have BK102 := n1_; have GW102 := n2_; have GE102 := n3_; clear n0_ n1_ n2_ n3_; clear hb hbox hg))
  go_loopg [7, 8] k (fun kq v7 v8 w' => ∃ (x7_1 : List (List Int)) (x8_1 : Int), v8 = .int .i64 x8_1 ∧ Aside0 (spec_raBack.l0 kq a1 a2 x7_1 x8_1 a0_0 a0_1 = some r) ∧ Aside0 (kq ≤ k) ∧ Aside0 (Kd.S (Kd.slice 3 (Kd.int .i64)) 52 w' w.heap.size (fun _ => True) v7 x7_1) ∧ Aside0 (w'.heap[gb102]? = some (.cells #[.int .i64 a0_0, .int .i64 a0_1] 31 (0, 0))) ∧ Aside0 (Below w.heap.size w w'))
  case atStart => exact ⟨(([] : List (List Int))), (0), (by first | rfl | (simp; done) | (simp [*]; done)), H', ⟨Nat.le_refl _⟩, ⟨by first | exact Kd.S_nil _ _ _ _ _ | exact Kd.N_nil _ _ _ _ _ | exact Kd.V_nil _ _ _ _ _ | exact Kd.Q_nil _ _ _ _ _ | exact Kd.R_nil _ _ _ _ _⟩, ⟨by (with_reducible repeat (first | refine blk_drewN ?_ _ | refine blk_drew ?_ | refine blk_alloc ?_ _)); exact BK102.out⟩, ⟨by repeat (first | (with_reducible first | exact HB.out | apply below_alloc | apply pw_below_drewN | apply below_drew1 | refine below_set ?_ GE102.out) | exact HB.out)⟩⟩
  case round =>
    clear H'
    try clear p2
    obtain ⟨x7_1, x8_1, rfl, HA, HK1, HO_7, BK102, HB⟩ := hrel
    cases gk with
    | zero => exact absurd HA.out (by simp [spec_raBack.l0])
    | succ k1 =>
      have H := HA.out
      clear HA
      simp only [spec_raBack.l0] at H
      by_cases c5 : x8_1 ≤ a1
      · rw [if_pos c5] at H
        have c5b0 : decide (x8_1 ≤ a1) = true := decide_eq_true c5
        clear c5
        obtain ⟨ji6, hji6⟩ : ∃ j_ : Int, (wrap64 (a2 + 1)) = j_ := ⟨_, rfl⟩
        replace H : (if 0 ≤ (ji6) then (if (ji6 : Int).toNat ≤ 35184372088832 then (if x7_1.length < 5864062014805 then (spec_raBack.l0 k1 a1 a2 (x7_1 ++ [(List.replicate (ji6 : Int).toNat 0)]) (wrap64 (x8_1 + 1)) a0_0 a0_1) else (none)) else (none)) else (none)) = some r := by first | (rw [hji6] at H; exact H) | (simp only [hji6] at H ⊢; exact H)
        have hji6w : (IntKind.i64.wrap (a2 + 1)) = ji6 := (i64_w _).trans hji6
        by_cases c7 : 0 ≤ (ji6)
        · rw [if_pos c7] at H
          have c7b0 := eq_true c7
          have c7b1 : decide (0 ≤ (ji6)) = true := decide_eq_true c7
          clear c7
          by_cases c8 : (ji6 : Int).toNat ≤ 35184372088832
          · rw [if_pos c8] at H
            have c8b0 := eq_true c8
            have c8b1 : decide ((ji6 : Int).toNat ≤ 35184372088832) = true := decide_eq_true c8
            clear c8
            obtain ⟨y103, hy103⟩ : ∃ y_ : List Int, y_ = (List.replicate (ji6 : Int).toNat 0) := ⟨_, rfl⟩
            replace H : (if x7_1.length < 5864062014805 then (spec_raBack.l0 k1 a1 a2 (x7_1 ++ [y103]) (wrap64 (x8_1 + 1)) a0_0 a0_1) else (none)) = some r := by first | (rw [hy103]; with_reducible exact H) | (have H2_ := (Option.bind_some _ _).symm.trans H; rw [hy103]; with_reducible exact H2_) | (have H2_ := (Option.bind_some _ _).symm.trans H; with_reducible exact H2_) | with_reducible exact H | (rw [hy103]; exact H) | exact H
            have Ny103 := Aside0.mk hy103
            clear hy103
            by_cases c9 : x7_1.length < 5864062014805
            · rw [if_pos c9] at H
              have LMc9 := Aside0.mk c9
              clear c9
              obtain ⟨y106, hy106⟩ : ∃ y_ : List (List Int), y_ = (x7_1 ++ [y103]) := ⟨_, rfl⟩
              replace H : (spec_raBack.l0 k1 a1 a2 y106 (wrap64 (x8_1 + 1)) a0_0 a0_1) = some r := by first | (rw [hy106]; with_reducible exact H) | (have H2_ := (Option.bind_some _ _).symm.trans H; rw [hy106]; with_reducible exact H2_) | (have H2_ := (Option.bind_some _ _).symm.trans H; with_reducible exact H2_) | with_reducible exact H | (rw [hy106]; exact H) | exact H
              have Ny106 := Aside0.mk hy106
              clear hy106
              have H' := Aside0.mk H
              clear H
              go_wp2_with (first | ((with_reducible refine gate_dst (N := 21) rfl ?_); refine Kd.R_make (Kd.int .i64) _ 3 rfl (N := 21) rfl 52 _ _ rfl ji6 rfl rfl Try.underlying52 (.int .i64 0) 8 info3 rfl (by decide) (by omega) 0 (ok := fun _ => True) (okp := fun _ => True) rfl (fun _ hk => hk) trivial (of_decide_eq_true (by first | (with_reducible assumption) | assumption)) (Nat.le_trans (Nat.mul_le_mul_right _ (of_decide_eq_true (by first | (with_reducible assumption) | assumption) : ji6.toNat ≤ 35184372088832)) (by omega)) (Below.refl _ _) (Nat.le_refl _) ?_; intro v104 w10 ho11 hb hg_ hnew_; clear hg_ hnew_; (first | rw [← Ny103.out] at ho11 | (simp only [Int.reduceToNat] at ho11; rw [← Ny103.out] at ho11)); have n0_ := Aside0.mk (Kd.S_elder' (by (with_reducible repeat (first | apply Kd.S_alloc | apply Kd.S_drewN | apply Kd.S_drew)); exact HO_7.out) (Kd.R_base ho11) hb); have n1_ := Aside0.mk (Kd.R_lower ho11 (below_size (by repeat (first | (with_reducible first | exact HB.out | apply below_alloc | apply pw_below_drewN | apply below_drew1 | refine below_set ?_ GE102.out) | exact HB.out)))); have n2_ := Aside0.mk (blk_below (g := gb102) (o := .cells #[.int .i64 a0_0, .int .i64 a0_1] 31 (0, 0)) (by (with_reducible repeat (first | refine blk_drewN ?_ _ | refine blk_drew ?_ | refine blk_alloc ?_ _)); exact BK102.out) hb); have n3_ := Aside0.mk (below_step (by repeat (first | (with_reducible first | exact HB.out | apply below_alloc | apply pw_below_drewN | apply below_drew1 | refine below_set ?_ GE102.out) | exact HB.out)) hb); clear HO_7; clear BK102; clear HB; have HO_7 := n0_; have HO105 := n1_; have BK102 := n2_; have HB := n3_; clear n0_ n1_ n2_ n3_; clear hb ho11; obtain ⟨Ao13, co13, eo13⟩ := Kd.R_slice HO105.out; subst eo13) | ((with_reducible refine gate_builtin (b := .append) (xs := #[.tmp 18, .tmp 22]) rfl ?_); at_builtin; refine Kd.S_append (Kd.slice 3 (Kd.int .i64)) (w0 := w) w.heap.size rfl (.tmp 18) (.tmp 22) 53 52 (.slice none 0 0) 24 rfl Try.underlying53 info52 rfl (by decide) (by omega) u7 x7_1 y103 [.slice Ao13 y103.length co13] (fun _ => True) (fun k_ => some k_ = (.slice Ao13 y103.length co13 : Value).ownBlock) rfl rfl ?aP (fun k_ hk_ => ((Kd.R_mono (ok' := fun k_ => ((fun _ => True)) k_ ∧ some k_ ≠ (u7 : Value).ownBlock) (Kd.R_apart' (HO105.out) (Kd.S_typed HO_7.out) (by decide)) (fun k_ hk => ⟨trivial, hk.2⟩))).1 k_ hk_.symm) ?aF ?aO ?aB ?aS ?aL ?_; (case aP => exact Kd.M_row (Kd.R_mono (Kd.R_tight rfl (Kd.R_mono (ok' := fun k_ => ((fun _ => True)) k_ ∧ some k_ ≠ (u7 : Value).ownBlock) (Kd.R_apart' (HO105.out) (Kd.S_typed HO_7.out) (by decide)) (fun k_ hk => ⟨trivial, hk.2⟩))) (fun _ h_ => h_))); (case aB => exact (by repeat (first | (with_reducible first | exact HB.out | apply below_alloc | apply pw_below_drewN | apply below_drew1 | refine below_set ?_ GE102.out) | exact HB.out))); (case aF => exact (fun _ _ => trivial)); (case aO => exact (by (with_reducible repeat (first | apply Kd.S_alloc | apply Kd.S_drewN | apply Kd.S_drew)); exact Kd.S_mono HO_7.out (fun k_ hk => ⟨trivial, fun e_ => hk.2 e_⟩))); (case aS => exact (below_size (by repeat (first | (with_reducible first | exact HB.out | apply below_alloc | apply pw_below_drewN | apply below_drew1 | refine below_set ?_ GE102.out) | exact HB.out)))); (case aL => have := LMc9.out; omega); intro v107 w12 ho hb hg hat; rw [← Ny106.out] at ho; have n0_ := Aside0.mk (blk_grown (g := gb102) (o := .cells #[.int .i64 a0_0, .int .i64 a0_1] 31 (0, 0)) (by (with_reducible repeat (first | refine blk_drewN ?_ _ | refine blk_drew ?_ | refine blk_alloc ?_ _)); exact BK102.out) hg (Kd.S_ne HO_7.out BK102.out (by decide))); have n1_ := Aside0.mk (hb); have n2_ := Aside0.mk (ho); clear BK102; clear HB; clear HO_7; clear HO105; have BK102 := n0_; have HB := n1_; have HO108 := n2_; clear n0_ n1_ n2_; clear ho hb hg hat))
              go_roundg k1
              case measure => have := HK1.out; omega
              case rel => exact ⟨(y106), (wrap64 (x8_1 + 1)), (by first | rfl | (simp; done) | (simp [*]; done)), H', ⟨by have := HK1.out; omega⟩, ⟨by (with_reducible repeat (first | apply Kd.S_alloc | apply Kd.S_drewN | apply Kd.S_drew)); exact HO108.out⟩, ⟨by (with_reducible repeat (first | refine blk_drewN ?_ _ | refine blk_drew ?_ | refine blk_alloc ?_ _)); exact BK102.out⟩, ⟨by repeat (first | (with_reducible first | exact HB.out | apply below_alloc | apply pw_below_drewN | apply below_drew1 | refine below_set ?_ GE102.out) | exact HB.out)⟩⟩
            · rw [if_neg c9] at H
              exact absurd H (by simp)
          · rw [if_neg c8] at H
            exact absurd H (by simp)
        · rw [if_neg c7] at H
          exact absurd H (by simp)
      · rw [if_neg c5] at H
        have c5b0 : decide (x8_1 ≤ a1) = false := decide_eq_false c5
        clear c5
        have H' := Aside0.mk H
        clear H
        go_wp2
        go_loopg [9] k1 (fun kq v9 w' => ∃ (x7_2 : List (List Int)) (x9_2 : Int), v9 = .int .i64 x9_2 ∧ Aside0 (spec_raBack.l1 kq a1 a2 x7_2 x9_2 a0_0 a0_1 = some r) ∧ Aside0 (kq ≤ k1) ∧ Aside0 (Kd.S (Kd.slice 3 (Kd.int .i64)) 52 w' w.heap.size (fun _ => True) u7 x7_2) ∧ Aside0 (w'.heap[gb102]? = some (.cells #[.int .i64 a0_0, .int .i64 a0_1] 31 (0, 0))) ∧ Aside0 (Below w.heap.size w w'))
        case atStart => exact ⟨(x7_1), (a1), (by first | rfl | (simp; done) | (simp [*]; done)), H', ⟨Nat.le_refl _⟩, ⟨by (with_reducible repeat (first | apply Kd.S_alloc | apply Kd.S_drewN | apply Kd.S_drew)); exact HO_7.out⟩, ⟨by (with_reducible repeat (first | refine blk_drewN ?_ _ | refine blk_drew ?_ | refine blk_alloc ?_ _)); exact BK102.out⟩, ⟨by repeat (first | (with_reducible first | exact HB.out | apply below_alloc | apply pw_below_drewN | apply below_drew1 | refine below_set ?_ GE102.out) | exact HB.out)⟩⟩
        case round =>
          clear H'
          try clear p2
          try clear c5
          try clear c5b0
          try clear p6
          try clear c7
          try clear c7b0
          try clear c7b1
          try clear c8
          try clear c8b0
          try clear c8b1
          try clear c9
          try clear p2
          obtain ⟨x7_2, x9_2, rfl, HA, HK2, HO_7, BK102, HB⟩ := hrel
          cases gk with
          | zero => exact absurd HA.out (by simp [spec_raBack.l1])
          | succ k2 =>
            have H := HA.out
            clear HA
            simp only [spec_raBack.l1] at H
            by_cases c14 : x9_2 ≥ 0
            · rw [if_pos c14] at H
              have c14b0 : decide (0 ≤ x9_2) = true := decide_eq_true c14
              clear c14
              by_cases c15 : 0 ≤ x9_2
              · rw [if_pos c15] at H
                have c15b0 : decide (0 ≤ x9_2) = true := decide_eq_true c15
                clear c15
                by_cases c16 : x9_2 < (x7_2.length : Int)
                · rw [if_pos c16] at H
                  have c16b0 : decide (x9_2 < (x7_2.length : Int)) = true := decide_eq_true c16
                  clear c16
                  have H' := Aside0.mk H
                  clear H
                  obtain ⟨Ao17, co17, eo17⟩ := Kd.S_slice HO_7.out
                  subst eo17
                  have p109 : 0 ≤ (x9_2 : Int) := of_decide_eq_true (by first | (with_reducible assumption) | assumption)
                  have q109 : x9_2 < (x7_2.length : Int) := of_decide_eq_true (by first | (with_reducible assumption) | assumption)
                  obtain ⟨ad109, A109_0, c109_0, e109, hx109_0, hl109_0, hi109_0⟩ := at_L1 (Kd.S_reads' HO_7.out).2.2 x9_2 p109 q109
                  cases e109
                  obtain ⟨ce109, hce109, hMe109, hcc109⟩ := Kd.S_get HO_7.out [] x9_2 p109 (by first | exact q109 | exact of_decide_eq_true (by first | (with_reducible assumption) | assumption) | (have e_ := (Kd.S_reads' HO_7.out).1; omega))
                  obtain ⟨ve109_0, rfl, ge109_0⟩ := hMe109
                  have hv109_0 := hcc109 0 _ rfl
                  rw [Nat.add_zero, show ((Kd.slice 3 (Kd.int .i64))).sz = 1 from rfl, Nat.mul_one] at hv109_0
                  replace hv109_0 := Option.some.inj (hv109_0.symm.trans hx109_0)
                  rw [hv109_0] at ge109_0
                  have HL109_0 := Aside0.mk (show Kd.R (Kd.int .i64) 3 _ _ _ _ (rd_L1 x7_2 x9_2) from ge109_0)
                  clear hv109_0 ge109_0
                  have HX109_0 := Aside0.mk hx109_0
                  clear hcc109 hce109
                  have HR109_0 := Aside0.mk hi109_0
                  have HC109_0 := Aside0.mk hl109_0
                  clear hi109_0 hl109_0
                  replace p109 := eq_true p109
                  replace q109 := eq_true q109
                  have HW := Aside0.mk (RowAt.of HO_7.out HX109_0.out : RowAt 52 _ (.slice (some ad109) 0 0) (x9_2 : Int).toNat (.slice A109_0 (rd_L1 x7_2 x9_2).length c109_0))
                  go_wp2
                  go_loopg [11] k2 (fun kq v11 w' => ∃ (x7_3 : List (List Int)) (x11_3 : Int), v11 = .int .i64 x11_3 ∧ Aside0 (spec_raBack.l2 kq a1 a2 x7_3 x9_2 x11_3 a0_0 a0_1 = some r) ∧ Aside0 (kq ≤ k2) ∧ Aside0 (RowAt 52 w' (.slice (some ad109) 0 0) (x9_2 : Int).toNat (.slice A109_0 (rd_L1 x7_2 x9_2).length c109_0)) ∧ Aside0 (Kd.S (Kd.slice 3 (Kd.int .i64)) 52 w' w.heap.size (fun _ => True) (.slice (some ad109) x7_2.length co17) x7_3) ∧ Aside0 (w'.heap[gb102]? = some (.cells #[.int .i64 a0_0, .int .i64 a0_1] 31 (0, 0))) ∧ Aside0 (Below w.heap.size w w'))
                  case atStart => exact ⟨(x7_2), (a2), (by first | rfl | (simp; done) | (simp [*]; done)), H', ⟨Nat.le_refl _⟩, ⟨by (with_reducible repeat (first | refine RowAt.drewN ?_ _ | refine RowAt.drew ?_ | refine RowAt.alloc ?_ _)); exact HW.out⟩, ⟨by (with_reducible repeat (first | apply Kd.S_alloc | apply Kd.S_drewN | apply Kd.S_drew)); exact HO_7.out⟩, ⟨by (with_reducible repeat (first | refine blk_drewN ?_ _ | refine blk_drew ?_ | refine blk_alloc ?_ _)); exact BK102.out⟩, ⟨by repeat (first | (with_reducible first | exact HB.out | apply below_alloc | apply pw_below_drewN | apply below_drew1 | refine below_set ?_ GE102.out) | exact HB.out)⟩⟩
                  case round =>
                    clear H'
                    try clear c1
                    try clear p1
                    try clear q1
                    try clear hx1
                    try clear p2
                    try clear c5
                    try clear c5b0
                    try clear p6
                    try clear c7
                    try clear c7b0
                    try clear c7b1
                    try clear c8
                    try clear c8b0
                    try clear c8b1
                    try clear c9
                    try clear c10
                    try clear p10
                    try clear q10
                    try clear hx10
                    try clear c14
                    try clear c14b0
                    try clear c15
                    try clear c15b0
                    try clear c16
                    try clear c16b0
                    try clear hx109_0
                    try clear p109
                    try clear p2
                    try clear p6
                    try clear q109
                    obtain ⟨x7_3, x11_3, rfl, HA, HK3, HW, HO_7, BK102, HB⟩ := hrel
                    have hl7_3 := (Kd.S_reads' HO_7.out).1
                    rw [hl7_3] at HO_7
                    (try simp only [hl7_3])
                    (try simp only [hl7_3] at BK102)
                    cases gk with
                    | zero => exact absurd HA.out (by simp [spec_raBack.l2])
                    | succ k3 =>
                      have H := HA.out
                      clear HA
                      simp only [spec_raBack.l2] at H
                      by_cases c18 : x11_3 ≥ 0
                      · rw [if_pos c18] at H
                        have c18b0 : decide (0 ≤ x11_3) = true := decide_eq_true c18
                        clear c18
                        have HC19 := Aside0.mk H
                        clear H
                        go_upto_region 19 with (fail)
                        go_cut [66] (fun v66 wc => ∃ (kq : Nat) (x66_18 : Bool), v66 = .bool x66_18 ∧ Aside0 (spec_raBack.j3 kq a1 a2 x7_3 x9_2 x11_3 x66_18 a0_0 a0_1 = some r) ∧ Aside0 (kq ≤ k3) ∧ Aside0 (RowAt 52 wc (.slice (some ad109) 0 0) (x9_2 : Int).toNat (.slice A109_0 (rd_L1 x7_2 x9_2).length c109_0)) ∧ Aside0 (Kd.S (Kd.slice 3 (Kd.int .i64)) 52 wc w.heap.size (fun _ => True) (.slice (some ad109) x7_3.length co17) x7_3) ∧ Aside0 (wc.heap[gb102]? = some (.cells #[.int .i64 a0_0, .int .i64 a0_1] 31 (0, 0))) ∧ Aside0 (Below w.heap.size w wc))
                        case first =>
                          have H := HC19.out
                          clear HC19
                          by_cases c20 : x9_2 = a1
                          · rw [if_pos c20] at H
                            have c20b0 : (x9_2 == a1) = true := beq_iff_eq.mpr c20
                            have c20b1 : (x9_2 != a1) = false := bne_eq_false_iff_eq.mpr c20
                            clear c20
                            (first | rw [c20b0] | (simp only [i64_w, i32_w]; rw [c20b0]) | skip)
                            have H' := Aside0.mk H
                            clear H
                            go_wp2
                            go_meet
                            case rel => exact ⟨_, ((x11_3 == a2)), (by first | rfl | (simp; done) | (simp [*]; done)), H', ⟨by have := HK1.out; have := HK2.out; have := HK3.out; first | omega | exact Nat.le_refl _⟩, ⟨by (with_reducible repeat (first | refine RowAt.drewN ?_ _ | refine RowAt.drew ?_ | refine RowAt.alloc ?_ _)); exact HW.out⟩, ⟨by (try simp only [hl7_3]); (with_reducible repeat (first | apply Kd.S_alloc | apply Kd.S_drewN | apply Kd.S_drew)); exact HO_7.out⟩, ⟨by (try simp only [hl7_3]); (with_reducible repeat (first | refine blk_drewN ?_ _ | refine blk_drew ?_ | refine blk_alloc ?_ _)); exact BK102.out⟩, ⟨by repeat (first | (with_reducible first | exact HB.out | apply below_alloc | apply pw_below_drewN | apply below_drew1 | refine below_set ?_ GE102.out) | exact HB.out)⟩⟩
                          · rw [if_neg c20] at H
                            have c20b0 : (x9_2 == a1) = false := beq_eq_false_iff_ne.mpr c20
                            have c20b1 : (x9_2 != a1) = true := bne_iff_ne.mpr c20
                            (first | rw [c20b0] | (simp only [i64_w, i32_w]; rw [c20b0]) | skip)
                            have H' := Aside0.mk H
                            clear H
                            go_wp2
                            go_meet
                            case rel => exact ⟨_, (false), (by first | rfl | (simp; done) | (simp [*]; done)), H', ⟨by have := HK1.out; have := HK2.out; have := HK3.out; first | omega | exact Nat.le_refl _⟩, ⟨by (with_reducible repeat (first | refine RowAt.drewN ?_ _ | refine RowAt.drew ?_ | refine RowAt.alloc ?_ _)); exact HW.out⟩, ⟨by (try simp only [hl7_3]); (with_reducible repeat (first | apply Kd.S_alloc | apply Kd.S_drewN | apply Kd.S_drew)); exact HO_7.out⟩, ⟨by (try simp only [hl7_3]); (with_reducible repeat (first | refine blk_drewN ?_ _ | refine blk_drew ?_ | refine blk_alloc ?_ _)); exact BK102.out⟩, ⟨by repeat (first | (with_reducible first | exact HB.out | apply below_alloc | apply pw_below_drewN | apply below_drew1 | refine below_set ?_ GE102.out) | exact HB.out)⟩⟩
                        case rest =>
                          clear HC19
                          try clear c1
                          try clear p1
                          try clear q1
                          try clear hx1
                          try clear c2
                          try clear p2
                          try clear c5
                          try clear c5b0
                          try clear p6
                          try clear c7
                          try clear c7b0
                          try clear c7b1
                          try clear c8
                          try clear c8b0
                          try clear c8b1
                          try clear c9
                          try clear c10
                          try clear p10
                          try clear q10
                          try clear hx10
                          try clear c14
                          try clear c14b0
                          try clear c15
                          try clear c15b0
                          try clear c16
                          try clear c16b0
                          try clear c18
                          try clear c18b0
                          try clear c20
                          try clear c20b0
                          try clear c20b1
                          try clear hx109_0
                          try clear p1
                          try clear p10
                          try clear p109
                          try clear p2
                          try clear p6
                          try clear q1
                          try clear q10
                          try clear q109
                          obtain ⟨kq, x66_18, rfl, HA, HJ18, HW, HO_7, BK102, HB⟩ := hcut
                          cases kq with
                          | zero => exact absurd HA.out (by simp [spec_raBack.j3])
                          | succ kj18 =>
                            have H := HA.out
                            clear HA
                            simp only [spec_raBack.j3] at H
                            by_cases c21 : x66_18 = true
                            · subst c21
                              have H1 : (if 0 ≤ x9_2 then (if x9_2 < (x7_3.length : Int) then (if 0 ≤ x11_3 then (if x11_3 < ((rd_L1 x7_3 x9_2).length : Int) then (spec_raBack.l2 kj18 a1 a2 (x7_3.set (x9_2 : Int).toNat ((rd_L1 x7_3 x9_2).set (x11_3 : Int).toNat 1)) x9_2 (wrap64 (x11_3 - 1)) a0_0 a0_1) else (none)) else (none)) else (none)) else (none)) = some r := by rw [if_pos rfl] at H; exact H
                              clear H
                              have H := H1
                              clear H1
                              by_cases c22 : 0 ≤ x9_2
                              · rw [if_pos c22] at H
                                have c22b0 : decide (0 ≤ x9_2) = true := decide_eq_true c22
                                clear c22
                                by_cases c23 : x9_2 < (x7_3.length : Int)
                                · rw [if_pos c23] at H
                                  have c23b0 : decide (x9_2 < (x7_3.length : Int)) = true := decide_eq_true c23
                                  clear c23
                                  by_cases c24 : 0 ≤ x11_3
                                  · rw [if_pos c24] at H
                                    have c24b0 : decide (0 ≤ x11_3) = true := decide_eq_true c24
                                    clear c24
                                    by_cases c25 : x11_3 < ((rd_L1 x7_3 x9_2).length : Int)
                                    · rw [if_pos c25] at H
                                      have c25b0 : decide (x11_3 < ((rd_L1 x7_3 x9_2).length : Int)) = true := decide_eq_true c25
                                      clear c25
                                      obtain ⟨y111, hy111⟩ : ∃ y_ : List Int, y_ = ((rd_L1 x7_3 x9_2).set (x11_3 : Int).toNat 1) := ⟨_, rfl⟩
                                      replace H : (spec_raBack.l2 kj18 a1 a2 (x7_3.set (x9_2 : Int).toNat y111) x9_2 (wrap64 (x11_3 - 1)) a0_0 a0_1) = some r := by first | (rw [hy111]; with_reducible exact H) | (have H2_ := (Option.bind_some _ _).symm.trans H; rw [hy111]; with_reducible exact H2_) | (have H2_ := (Option.bind_some _ _).symm.trans H; with_reducible exact H2_) | with_reducible exact H | (rw [hy111]; exact H) | exact H
                                      have Ny111 := Aside0.mk hy111
                                      clear hy111
                                      obtain ⟨y113, hy113⟩ : ∃ y_ : List (List Int), y_ = (x7_3.set (x9_2 : Int).toNat y111) := ⟨_, rfl⟩
                                      replace H : (spec_raBack.l2 kj18 a1 a2 y113 x9_2 (wrap64 (x11_3 - 1)) a0_0 a0_1) = some r := by first | (rw [hy113]; with_reducible exact H) | (have H2_ := (Option.bind_some _ _).symm.trans H; rw [hy113]; with_reducible exact H2_) | (have H2_ := (Option.bind_some _ _).symm.trans H; with_reducible exact H2_) | with_reducible exact H | (rw [hy113]; exact H) | exact H
                                      have Ny113 := Aside0.mk hy113
                                      clear hy113
                                      have H' := Aside0.mk H
                                      clear H
                                      have p110 : 0 ≤ (x9_2 : Int) := of_decide_eq_true (by first | (with_reducible assumption) | assumption)
                                      have q110 : x9_2 < (x7_3.length : Int) := of_decide_eq_true (by first | (with_reducible assumption) | assumption)
                                      obtain ⟨ad110, A110_0, c110_0, e110, hx110_0, hl110_0, hi110_0⟩ := at_L1 (Kd.S_reads' HO_7.out).2.2 x9_2 p110 q110
                                      obtain rfl : ad109 = ad110 := (by injection e110)
                                      obtain ⟨ce110, hce110, hMe110, hcc110⟩ := Kd.S_get HO_7.out [] x9_2 p110 (by first | exact q110 | exact of_decide_eq_true (by first | (with_reducible assumption) | assumption) | (have e_ := (Kd.S_reads' HO_7.out).1; omega))
                                      obtain ⟨ve110_0, rfl, ge110_0⟩ := hMe110
                                      have hv110_0 := hcc110 0 _ rfl
                                      rw [Nat.add_zero, show ((Kd.slice 3 (Kd.int .i64))).sz = 1 from rfl, Nat.mul_one] at hv110_0
                                      replace hv110_0 := Option.some.inj (hv110_0.symm.trans hx110_0)
                                      rw [hv110_0] at ge110_0
                                      have HL110_0 := Aside0.mk (show Kd.R (Kd.int .i64) 3 _ _ _ _ (rd_L1 x7_3 x9_2) from ge110_0)
                                      clear hv110_0 ge110_0
                                      have HX110_0 := Aside0.mk hx110_0
                                      clear hcc110 hce110
                                      have HR110_0 := Aside0.mk hi110_0
                                      have HC110_0 := Aside0.mk hl110_0
                                      clear hi110_0 hl110_0
                                      have hs_ := RowAt.same2 HW.out HX110_0.out
                                      injection hs_ with ha_ hn_ hc_
                                      subst ha_
                                      subst hc_
                                      have HN := Aside0.mk hn_
                                      clear hn_
                                      replace p110 := eq_true p110
                                      replace q110 := eq_true q110
                                      have p26 : 0 ≤ (x11_3 : Int) := of_decide_eq_true (by first | (with_reducible assumption) | assumption)
                                      have q26 : (x11_3 : Int) < (((rd_L1 x7_3 x9_2).length : Int) : Int) := of_decide_eq_true (by first | (with_reducible assumption) | assumption)
                                      obtain ⟨go26, co26, eo26, gb26, gl26, cl26, HG26⟩ := Kd.R_form HL110_0.out (by omega)
                                      (first | cases eo26 | (injection eo26 with ea_ en_ ec_; (first | subst ea_ | (injection ea_ with ea_; subst ea_)); subst ec_; clear en_))
                                      have GB26 := Aside0.mk gb26
                                      have GG26 := Aside0.mk HG26
                                      clear gb26 gl26 HG26
                                      obtain ⟨hx26_0, hf26_0⟩ := Kd.R_celln 0 HL110_0.out (x11_3 : Int) p26 q26
                                      replace p26 := eq_true p26
                                      replace q26 := eq_true q26
                                      have q26y : ((x11_3 : Int) < ((rd_L1 x7_2 x9_2).length : Int)) = True := (by rw [HN.out]; exact q26)
                                      have hq27 : (x9_2 : Int) < (x7_3.length : Int) := (by have h_ : (x9_2 : Int) < ((x7_3.length : Int) : Int) := of_decide_eq_true (by first | (with_reducible assumption) | assumption); first | exact h_ | (have e_ := (Kd.S_reads' HO_7.out).1; omega) | simpa only [List.length_set, List.length_set] using h_)
                                      obtain ⟨oki27, ce27, hcl27, hM27, hcc27, hok27, hbk27⟩ := Kd.S_borrow HO_7.out [] (x9_2 : Int) (of_decide_eq_true (by first | (with_reducible assumption) | assumption)) hq27
                                      obtain ⟨ve27_0, rfl, ge27_0⟩ := hM27
                                      have hv27 := hcc27 0 _ rfl
                                      rw [Nat.add_zero, show ((Kd.slice 3 (Kd.int .i64))).sz = 1 from rfl, Nat.mul_one] at hv27
                                      replace hv27 := Option.some.inj (hv27.symm.trans HX110_0.out)
                                      subst hv27
                                      clear hcc27 hcl27
                                      replace ge27_0 := (show Kd.R (Kd.int .i64) 3 _ _ _ _ (rd_L1 x7_3 x9_2) from ge27_0)
                                      have HP27 := Kd.R_putg ge27_0 (x11_3 : Int) 1
                                      go_wp2_with (first | ((with_reducible refine gate_store (t := 3) (p := 77) rfl ?_); refine store_event (t := 3) (p := 77) (v := ?vo_w28) (w1 := (wc.setCell ⟨go26, (x11_3 : Int).toNat, none⟩ (.int .i64 1))) ?hg ?ho ?hn ?hr ?_; (case ho => rfl); (case hg => rfl); (case hn => rfl); (case hr => first | (go_simp; done) | (go_simp; rfl)); intro w28 hw; have hg : wc.grownBy w28 (some go26) := (by rw [hw]; exact HP27.2); have hz_ : Kd.R (Kd.int .i64) 3 w28 w.heap.size oki27 (.slice (some ⟨go26, 0, none⟩) (rd_L1 x7_3 x9_2).length c109_0) y111 := (by rw [hw, Ny111.out]; exact HP27.1); have hp_ : Kd.S (Kd.slice 3 (Kd.int .i64)) 52 w28 w.heap.size (fun _ => True) (.slice (some ad109) x7_3.length co17) y113 := (by rw [Ny113.out]; exact hbk27 hg (fun k_ e_ => by injection e_ with e_; subst e_; exact ge27_0.1 _ rfl) (Kd.M_row hz_)); have hm_ := Kd.R_mono hz_ hok27; clear HP27 hbk27; have nW_ := Aside0.mk (RowAt.grown HW.out hg ⟨_, GG26.out⟩ (by decide : (52 : Nat) ≠ 3)); clear HW; have HW := nW_; clear nW_; have n0_ := Aside0.mk (hp_); have n1_ := Aside0.mk (blk_grown (g := gb102) (o := .cells #[.int .i64 a0_0, .int .i64 a0_1] 31 (0, 0)) (by (with_reducible repeat (first | refine blk_drewN ?_ _ | refine blk_drew ?_ | refine blk_alloc ?_ _)); exact BK102.out) hg (Kd.R_ne HL110_0.out BK102.out (by decide))); have n2_ := Aside0.mk ((by rw [hw]; exact below_set (HB.out) GB26.out : Below w.heap.size w w28)); have n3_ := Aside0.mk (hm_); have n4_ := Aside0.mk ((Kd.R_reads' hm_).2.1); clear HO_7; clear BK102; clear HB; clear HL110_0; have HO_7 := n0_; have BK102 := n1_; have HB := n2_; have HL141 := n3_; have HC112 := n4_; clear n0_ n1_ n2_ n3_ n4_; clear hg hw hp_ hz_ hm_ hok27))
                                      (try simp only [← hl7_3])
                                      go_roundg kj18
                                      case measure => have := HK1.out; have := HK2.out; have := HK3.out; have := HJ18.out; omega
                                      case rel => exact ⟨(y113), (wrap64 (x11_3 - 1)), (by first | rfl | (simp; done) | (simp [*]; done)), H', ⟨by have := HK1.out; have := HK2.out; have := HK3.out; have := HJ18.out; omega⟩, ⟨by (with_reducible repeat (first | refine RowAt.drewN ?_ _ | refine RowAt.drew ?_ | refine RowAt.alloc ?_ _)); exact HW.out⟩, ⟨by (try simp only [hl7_3]); (with_reducible repeat (first | apply Kd.S_alloc | apply Kd.S_drewN | apply Kd.S_drew)); exact HO_7.out⟩, ⟨by (try simp only [hl7_3]); (with_reducible repeat (first | refine blk_drewN ?_ _ | refine blk_drew ?_ | refine blk_alloc ?_ _)); exact BK102.out⟩, ⟨by repeat (first | (with_reducible first | exact HB.out | apply below_alloc | apply pw_below_drewN | apply below_drew1 | refine below_set ?_ GE102.out) | exact HB.out)⟩⟩
                                    · rw [if_neg c25] at H
                                      exact absurd H (by simp)
                                  · rw [if_neg c24] at H
                                    exact absurd H (by simp)
                                · rw [if_neg c23] at H
                                  exact absurd H (by simp)
                              · rw [if_neg c22] at H
                                exact absurd H (by simp)
                            · replace c21 := Bool.eq_false_iff.mpr c21
                              subst c21
                              have H1 : ((spec_raWon.f kj18 a0_0 a0_1 x9_2 x11_3).bind fun t114 => (if t114 = 0 then (if x9_2 < a1 then (if 0 ≤ (wrap64 (x9_2 + 1)) then (if (wrap64 (x9_2 + 1)) < (x7_3.length : Int) then (if 0 ≤ x11_3 then (if x11_3 < ((rd_L1 x7_3 (wrap64 (x9_2 + 1))).length : Int) then (if x11_3 < a2 then (if 0 ≤ x9_2 then (if x9_2 < (x7_3.length : Int) then (if 0 ≤ (wrap64 (x11_3 + 1)) then (if (wrap64 (x11_3 + 1)) < ((rd_L1 x7_3 x9_2).length : Int) then ((spec_l1Least.f (wrap64 ((wrap64 (0 + (rd (rd_L1 x7_3 (wrap64 (x9_2 + 1))) x11_3))) + (rd (rd_L1 x7_3 x9_2) (wrap64 (x11_3 + 1))))) 1000000000000001).bind fun t120 => (if x11_3 < ((rd_L1 x7_3 x9_2).length : Int) then (spec_raBack.l2 kj18 a1 a2 (x7_3.set (x9_2 : Int).toNat ((rd_L1 x7_3 x9_2).set (x11_3 : Int).toNat t120)) x9_2 (wrap64 (x11_3 - 1)) a0_0 a0_1) else (none))) else (none)) else (none)) else (none)) else (none)) else (if 0 ≤ x9_2 then (if x9_2 < (x7_3.length : Int) then ((spec_l1Least.f (wrap64 (0 + (rd (rd_L1 x7_3 (wrap64 (x9_2 + 1))) x11_3))) 1000000000000001).bind fun t125 => (if x11_3 < ((rd_L1 x7_3 x9_2).length : Int) then (spec_raBack.l2 kj18 a1 a2 (x7_3.set (x9_2 : Int).toNat ((rd_L1 x7_3 x9_2).set (x11_3 : Int).toNat t125)) x9_2 (wrap64 (x11_3 - 1)) a0_0 a0_1) else (none))) else (none)) else (none))) else (none)) else (none)) else (none)) else (none)) else (if x11_3 < a2 then (if 0 ≤ x9_2 then (if x9_2 < (x7_3.length : Int) then (if 0 ≤ (wrap64 (x11_3 + 1)) then (if (wrap64 (x11_3 + 1)) < ((rd_L1 x7_3 x9_2).length : Int) then ((spec_l1Least.f (wrap64 (0 + (rd (rd_L1 x7_3 x9_2) (wrap64 (x11_3 + 1))))) 1000000000000001).bind fun t132 => (if 0 ≤ x11_3 then (if x11_3 < ((rd_L1 x7_3 x9_2).length : Int) then (spec_raBack.l2 kj18 a1 a2 (x7_3.set (x9_2 : Int).toNat ((rd_L1 x7_3 x9_2).set (x11_3 : Int).toNat t132)) x9_2 (wrap64 (x11_3 - 1)) a0_0 a0_1) else (none)) else (none))) else (none)) else (none)) else (none)) else (none)) else (if 0 ≤ x9_2 then (if x9_2 < (x7_3.length : Int) then ((spec_l1Least.f 0 1000000000000001).bind fun t137 => (if 0 ≤ x11_3 then (if x11_3 < ((rd_L1 x7_3 x9_2).length : Int) then (spec_raBack.l2 kj18 a1 a2 (x7_3.set (x9_2 : Int).toNat ((rd_L1 x7_3 x9_2).set (x11_3 : Int).toNat t137)) x9_2 (wrap64 (x11_3 - 1)) a0_0 a0_1) else (none)) else (none))) else (none)) else (none)))) else (spec_raBack.l2 kj18 a1 a2 x7_3 x9_2 (wrap64 (x11_3 - 1)) a0_0 a0_1))) = some r := by rw [if_neg (show ¬ (false = true) by decide)] at H; exact H
                              clear H
                              have H := H1
                              clear H1
                              replace H := Option.bind_eq_some_iff.mp H
                              obtain ⟨t114, A290, H⟩ := H
                              replace H : (if t114 = 0 then (if x9_2 < a1 then (if 0 ≤ (wrap64 (x9_2 + 1)) then (if (wrap64 (x9_2 + 1)) < (x7_3.length : Int) then (if 0 ≤ x11_3 then (if x11_3 < ((rd_L1 x7_3 (wrap64 (x9_2 + 1))).length : Int) then (if x11_3 < a2 then (if 0 ≤ x9_2 then (if x9_2 < (x7_3.length : Int) then (if 0 ≤ (wrap64 (x11_3 + 1)) then (if (wrap64 (x11_3 + 1)) < ((rd_L1 x7_3 x9_2).length : Int) then ((spec_l1Least.f (wrap64 ((wrap64 (0 + (rd (rd_L1 x7_3 (wrap64 (x9_2 + 1))) x11_3))) + (rd (rd_L1 x7_3 x9_2) (wrap64 (x11_3 + 1))))) 1000000000000001).bind fun t120 => (if x11_3 < ((rd_L1 x7_3 x9_2).length : Int) then (spec_raBack.l2 kj18 a1 a2 (x7_3.set (x9_2 : Int).toNat ((rd_L1 x7_3 x9_2).set (x11_3 : Int).toNat t120)) x9_2 (wrap64 (x11_3 - 1)) a0_0 a0_1) else (none))) else (none)) else (none)) else (none)) else (none)) else (if 0 ≤ x9_2 then (if x9_2 < (x7_3.length : Int) then ((spec_l1Least.f (wrap64 (0 + (rd (rd_L1 x7_3 (wrap64 (x9_2 + 1))) x11_3))) 1000000000000001).bind fun t125 => (if x11_3 < ((rd_L1 x7_3 x9_2).length : Int) then (spec_raBack.l2 kj18 a1 a2 (x7_3.set (x9_2 : Int).toNat ((rd_L1 x7_3 x9_2).set (x11_3 : Int).toNat t125)) x9_2 (wrap64 (x11_3 - 1)) a0_0 a0_1) else (none))) else (none)) else (none))) else (none)) else (none)) else (none)) else (none)) else (if x11_3 < a2 then (if 0 ≤ x9_2 then (if x9_2 < (x7_3.length : Int) then (if 0 ≤ (wrap64 (x11_3 + 1)) then (if (wrap64 (x11_3 + 1)) < ((rd_L1 x7_3 x9_2).length : Int) then ((spec_l1Least.f (wrap64 (0 + (rd (rd_L1 x7_3 x9_2) (wrap64 (x11_3 + 1))))) 1000000000000001).bind fun t132 => (if 0 ≤ x11_3 then (if x11_3 < ((rd_L1 x7_3 x9_2).length : Int) then (spec_raBack.l2 kj18 a1 a2 (x7_3.set (x9_2 : Int).toNat ((rd_L1 x7_3 x9_2).set (x11_3 : Int).toNat t132)) x9_2 (wrap64 (x11_3 - 1)) a0_0 a0_1) else (none)) else (none))) else (none)) else (none)) else (none)) else (none)) else (if 0 ≤ x9_2 then (if x9_2 < (x7_3.length : Int) then ((spec_l1Least.f 0 1000000000000001).bind fun t137 => (if 0 ≤ x11_3 then (if x11_3 < ((rd_L1 x7_3 x9_2).length : Int) then (spec_raBack.l2 kj18 a1 a2 (x7_3.set (x9_2 : Int).toNat ((rd_L1 x7_3 x9_2).set (x11_3 : Int).toNat t137)) x9_2 (wrap64 (x11_3 - 1)) a0_0 a0_1) else (none)) else (none))) else (none)) else (none)))) else (spec_raBack.l2 kj18 a1 a2 x7_3 x9_2 (wrap64 (x11_3 - 1)) a0_0 a0_1)) = some r := H
                              have A29 := Aside0.mk A290
                              clear A290
                              by_cases c30 : t114 = 0
                              · rw [if_pos c30] at H
                                have c30b0 : (t114 == 0) = true := beq_iff_eq.mpr c30
                                have c30b1 : (t114 != 0) = false := bne_eq_false_iff_eq.mpr c30
                                clear c30
                                by_cases c31 : x9_2 < a1
                                · rw [if_pos c31] at H
                                  have c31b0 : decide (x9_2 < a1) = true := decide_eq_true c31
                                  clear c31
                                  obtain ⟨ji32, hji32⟩ : ∃ j_ : Int, (wrap64 (x9_2 + 1)) = j_ := ⟨_, rfl⟩
                                  replace H : (if 0 ≤ (ji32) then (if (ji32) < (x7_3.length : Int) then (if 0 ≤ x11_3 then (if x11_3 < ((rd_L1 x7_3 (ji32)).length : Int) then (if x11_3 < a2 then (if 0 ≤ x9_2 then (if x9_2 < (x7_3.length : Int) then (if 0 ≤ (wrap64 (x11_3 + 1)) then (if (wrap64 (x11_3 + 1)) < ((rd_L1 x7_3 x9_2).length : Int) then ((spec_l1Least.f (wrap64 ((wrap64 (0 + (rd (rd_L1 x7_3 (ji32)) x11_3))) + (rd (rd_L1 x7_3 x9_2) (wrap64 (x11_3 + 1))))) 1000000000000001).bind fun t120 => (if x11_3 < ((rd_L1 x7_3 x9_2).length : Int) then (spec_raBack.l2 kj18 a1 a2 (x7_3.set (x9_2 : Int).toNat ((rd_L1 x7_3 x9_2).set (x11_3 : Int).toNat t120)) x9_2 (wrap64 (x11_3 - 1)) a0_0 a0_1) else (none))) else (none)) else (none)) else (none)) else (none)) else (if 0 ≤ x9_2 then (if x9_2 < (x7_3.length : Int) then ((spec_l1Least.f (wrap64 (0 + (rd (rd_L1 x7_3 (ji32)) x11_3))) 1000000000000001).bind fun t125 => (if x11_3 < ((rd_L1 x7_3 x9_2).length : Int) then (spec_raBack.l2 kj18 a1 a2 (x7_3.set (x9_2 : Int).toNat ((rd_L1 x7_3 x9_2).set (x11_3 : Int).toNat t125)) x9_2 (wrap64 (x11_3 - 1)) a0_0 a0_1) else (none))) else (none)) else (none))) else (none)) else (none)) else (none)) else (none)) = some r := by first | (rw [hji32] at H; exact H) | (simp only [hji32] at H ⊢; exact H)
                                  (try rw [hji32] at A29)
                                  have hji32w : (IntKind.i64.wrap (x9_2 + 1)) = ji32 := (i64_w _).trans hji32
                                  by_cases c33 : 0 ≤ (ji32)
                                  · rw [if_pos c33] at H
                                    have c33b0 : decide (0 ≤ (ji32)) = true := decide_eq_true c33
                                    clear c33
                                    by_cases c34 : (ji32) < (x7_3.length : Int)
                                    · rw [if_pos c34] at H
                                      have c34b0 : decide ((ji32) < (x7_3.length : Int)) = true := decide_eq_true c34
                                      clear c34
                                      by_cases c35 : 0 ≤ x11_3
                                      · rw [if_pos c35] at H
                                        have c35b0 : decide (0 ≤ x11_3) = true := decide_eq_true c35
                                        clear c35
                                        by_cases c36 : x11_3 < ((rd_L1 x7_3 (ji32)).length : Int)
                                        · rw [if_pos c36] at H
                                          have c36b0 : decide (x11_3 < ((rd_L1 x7_3 (ji32)).length : Int)) = true := decide_eq_true c36
                                          clear c36
                                          by_cases c37 : x11_3 < a2
                                          · rw [if_pos c37] at H
                                            have c37b0 : decide (x11_3 < a2) = true := decide_eq_true c37
                                            clear c37
                                            by_cases c38 : 0 ≤ x9_2
                                            · rw [if_pos c38] at H
                                              have c38b0 : decide (0 ≤ x9_2) = true := decide_eq_true c38
                                              clear c38
                                              by_cases c39 : x9_2 < (x7_3.length : Int)
                                              · rw [if_pos c39] at H
                                                have c39b0 : decide (x9_2 < (x7_3.length : Int)) = true := decide_eq_true c39
                                                clear c39
                                                obtain ⟨ji40, hji40⟩ : ∃ j_ : Int, (wrap64 (x11_3 + 1)) = j_ := ⟨_, rfl⟩
                                                replace H : (if 0 ≤ (ji40) then (if (ji40) < ((rd_L1 x7_3 x9_2).length : Int) then ((spec_l1Least.f (wrap64 ((wrap64 (0 + (rd (rd_L1 x7_3 (ji32)) x11_3))) + (rd (rd_L1 x7_3 x9_2) (ji40)))) 1000000000000001).bind fun t120 => (if x11_3 < ((rd_L1 x7_3 x9_2).length : Int) then (spec_raBack.l2 kj18 a1 a2 (x7_3.set (x9_2 : Int).toNat ((rd_L1 x7_3 x9_2).set (x11_3 : Int).toNat t120)) x9_2 (wrap64 (x11_3 - 1)) a0_0 a0_1) else (none))) else (none)) else (none)) = some r := by first | (rw [hji40] at H; exact H) | (simp only [hji40] at H ⊢; exact H)
                                                (try rw [hji40] at A29)
                                                have hji40w : (IntKind.i64.wrap (x11_3 + 1)) = ji40 := (i64_w _).trans hji40
                                                by_cases c41 : 0 ≤ (ji40)
                                                · rw [if_pos c41] at H
                                                  have c41b0 : decide (0 ≤ (ji40)) = true := decide_eq_true c41
                                                  clear c41
                                                  by_cases c42 : (ji40) < ((rd_L1 x7_3 x9_2).length : Int)
                                                  · rw [if_pos c42] at H
                                                    have c42b0 : decide ((ji40) < ((rd_L1 x7_3 x9_2).length : Int)) = true := decide_eq_true c42
                                                    clear c42
                                                    replace H := Option.bind_eq_some_iff.mp H
                                                    obtain ⟨t120, A430, H⟩ := H
                                                    replace H : (if x11_3 < ((rd_L1 x7_3 x9_2).length : Int) then (spec_raBack.l2 kj18 a1 a2 (x7_3.set (x9_2 : Int).toNat ((rd_L1 x7_3 x9_2).set (x11_3 : Int).toNat t120)) x9_2 (wrap64 (x11_3 - 1)) a0_0 a0_1) else (none)) = some r := H
                                                    have A43 := Aside0.mk A430
                                                    clear A430
                                                    by_cases c44 : x11_3 < ((rd_L1 x7_3 x9_2).length : Int)
                                                    · rw [if_pos c44] at H
                                                      have c44b0 : decide (x11_3 < ((rd_L1 x7_3 x9_2).length : Int)) = true := decide_eq_true c44
                                                      clear c44
                                                      obtain ⟨y121, hy121⟩ : ∃ y_ : List Int, y_ = ((rd_L1 x7_3 x9_2).set (x11_3 : Int).toNat t120) := ⟨_, rfl⟩
                                                      replace H : (spec_raBack.l2 kj18 a1 a2 (x7_3.set (x9_2 : Int).toNat y121) x9_2 (wrap64 (x11_3 - 1)) a0_0 a0_1) = some r := by first | (rw [hy121]; with_reducible exact H) | (have H2_ := (Option.bind_some _ _).symm.trans H; rw [hy121]; with_reducible exact H2_) | (have H2_ := (Option.bind_some _ _).symm.trans H; with_reducible exact H2_) | with_reducible exact H | (rw [hy121]; exact H) | exact H
                                                      have Ny121 := Aside0.mk hy121
                                                      clear hy121
                                                      obtain ⟨y123, hy123⟩ : ∃ y_ : List (List Int), y_ = (x7_3.set (x9_2 : Int).toNat y121) := ⟨_, rfl⟩
                                                      replace H : (spec_raBack.l2 kj18 a1 a2 y123 x9_2 (wrap64 (x11_3 - 1)) a0_0 a0_1) = some r := by first | (rw [hy123]; with_reducible exact H) | (have H2_ := (Option.bind_some _ _).symm.trans H; rw [hy123]; with_reducible exact H2_) | (have H2_ := (Option.bind_some _ _).symm.trans H; with_reducible exact H2_) | with_reducible exact H | (rw [hy123]; exact H) | exact H
                                                      have Ny123 := Aside0.mk hy123
                                                      clear hy123
                                                      have H' := Aside0.mk H
                                                      clear H
                                                      have hcz46_0 : wc.cell? ⟨gb102, 0, none⟩ = some (.int .i64 a0_0) := (blk_cell BK102.out 0).trans rfl
                                                      have hcz46_1 : wc.cell? ⟨gb102, 1, none⟩ = some (.int .i64 a0_1) := (blk_cell BK102.out 1).trans rfl
                                                      have hfz46_0 := blk_frozen BK102.out 0
                                                      have hfz46_1 := blk_frozen BK102.out 1
                                                      go_wp2_with (first | ((with_reducible refine gate_callee (f := 37) rfl ?_); refine goesL_ (some 82) rfl rfl Try.func37 (by kernel_rfl) rfl #[.agg #[.int .i64 a0_0, .int .i64 a0_1], .int .i64 x9_2, .int .i64 x11_3] rfl (by (try simp only [List.map_toArray, List.map_cons, List.map_nil]); first | done | (simp only [Int.zero_add]; done) | (simp only [Int.zero_add]; rfl) | (simp only [Int.zero_add, hji32, hji40]; rfl) | (simp only [Int.zero_add, hji32]; rfl) | rfl | (simp only [List.length_drop, List.length_take]; rfl)) ?_; (with_reducible refine (spec_raWon.calls kj18 a0_0 a0_1 x9_2 x11_3 t114 _ A29.out).mono ?_); rintro e w47 ⟨rfl, hb⟩; refine ⟨_, rfl, ?_⟩; have nW_ := Aside0.mk (RowAt.below (by (with_reducible repeat (first | refine RowAt.drewN ?_ _ | refine RowAt.drew ?_ | refine RowAt.alloc ?_ _)); exact HW.out) hb); have n0_ := Aside0.mk (Kd.S_below (by (with_reducible repeat (first | apply Kd.S_alloc | apply Kd.S_drewN | apply Kd.S_drew)); exact HO_7.out) hb); have n1_ := Aside0.mk (blk_below (g := gb102) (o := .cells #[.int .i64 a0_0, .int .i64 a0_1] 31 (0, 0)) (by (with_reducible repeat (first | refine blk_drewN ?_ _ | refine blk_drew ?_ | refine blk_alloc ?_ _)); exact BK102.out) hb); have n2_ := Aside0.mk (below_step (by repeat (first | (with_reducible first | exact HB.out | apply below_alloc | apply pw_below_drewN | apply below_drew1 | refine below_set ?_ GE102.out) | exact HB.out)) hb); clear HO_7; clear BK102; clear HB; clear HW; have HO_7 := n0_; have BK102 := n1_; have HB := n2_; have HW := nW_; clear n0_ n1_ n2_ nW_; (try clear hb); (try clear hb2); (try clear hk); (try clear hi); have p115 : 0 ≤ ((ji32) : Int) := of_decide_eq_true (by first | (with_reducible assumption) | assumption); have q115 : (ji32) < (x7_3.length : Int) := of_decide_eq_true (by first | (with_reducible assumption) | assumption); obtain ⟨ad115, A115_0, c115_0, e115, hx115_0, hl115_0, hi115_0⟩ := at_L1 (Kd.S_reads' HO_7.out).2.2 (ji32) p115 q115; obtain rfl : ad109 = ad115 := (by injection e115); obtain ⟨ce115, hce115, hMe115, hcc115⟩ := Kd.S_get HO_7.out [] (ji32) p115 (by first | exact q115 | exact of_decide_eq_true (by first | (with_reducible assumption) | assumption) | (have e_ := (Kd.S_reads' HO_7.out).1; omega)); obtain ⟨ve115_0, rfl, ge115_0⟩ := hMe115; have hv115_0 := hcc115 0 _ rfl; rw [Nat.add_zero, show ((Kd.slice 3 (Kd.int .i64))).sz = 1 from rfl, Nat.mul_one] at hv115_0; replace hv115_0 := Option.some.inj (hv115_0.symm.trans hx115_0); rw [hv115_0] at ge115_0; have HL115_0 := Aside0.mk (show Kd.R (Kd.int .i64) 3 _ _ _ _ (rd_L1 x7_3 (ji32)) from ge115_0); clear hv115_0 ge115_0; have HX115_0 := Aside0.mk hx115_0; clear hcc115 hce115; have HR115_0 := Aside0.mk hi115_0; have HC115_0 := Aside0.mk hl115_0; clear hi115_0 hl115_0; replace p115 := eq_true p115; replace q115 := eq_true q115; have p116 : 0 ≤ (x11_3 : Int) := of_decide_eq_true (by first | (with_reducible assumption) | assumption); have q116 : x11_3 < ((rd_L1 x7_3 (ji32)).length : Int) := of_decide_eq_true (by first | (with_reducible assumption) | assumption); obtain ⟨ad116, e116, hx116_0⟩ := Kd.at_int (by repeat (first | (with_reducible exact HR115_0.out) | (with_reducible refine Kd.C_alloc ?_ _) | (with_reducible refine Kd.C_drewN ?_ _) | (with_reducible refine Kd.C_drew ?_) | exact HR115_0.out)) x11_3 p116 q116; cases e116; replace p116 := eq_true p116; replace q116 := eq_true q116; have p117 : 0 ≤ (x9_2 : Int) := of_decide_eq_true (by first | (with_reducible assumption) | assumption); have q117 : x9_2 < (x7_3.length : Int) := of_decide_eq_true (by first | (with_reducible assumption) | assumption); obtain ⟨ad117, A117_0, c117_0, e117, hx117_0, hl117_0, hi117_0⟩ := at_L1 (Kd.S_reads' HO_7.out).2.2 x9_2 p117 q117; obtain rfl : ad109 = ad117 := (by injection e117); obtain ⟨ce117, hce117, hMe117, hcc117⟩ := Kd.S_get HO_7.out [] x9_2 p117 (by first | exact q117 | exact of_decide_eq_true (by first | (with_reducible assumption) | assumption) | (have e_ := (Kd.S_reads' HO_7.out).1; omega)); obtain ⟨ve117_0, rfl, ge117_0⟩ := hMe117; have hv117_0 := hcc117 0 _ rfl; rw [Nat.add_zero, show ((Kd.slice 3 (Kd.int .i64))).sz = 1 from rfl, Nat.mul_one] at hv117_0; replace hv117_0 := Option.some.inj (hv117_0.symm.trans hx117_0); rw [hv117_0] at ge117_0; have HL117_0 := Aside0.mk (show Kd.R (Kd.int .i64) 3 _ _ _ _ (rd_L1 x7_3 x9_2) from ge117_0); clear hv117_0 ge117_0; have HX117_0 := Aside0.mk hx117_0; clear hcc117 hce117; have HR117_0 := Aside0.mk hi117_0; have HC117_0 := Aside0.mk hl117_0; clear hi117_0 hl117_0; have hs_ := RowAt.same2 HW.out HX117_0.out; injection hs_ with ha_ hn_ hc_; subst ha_; subst hc_; have HN := Aside0.mk hn_; clear hn_; replace p117 := eq_true p117; replace q117 := eq_true q117; have p118 : 0 ≤ ((ji40) : Int) := of_decide_eq_true (by first | (with_reducible assumption) | assumption); have q118 : (ji40) < ((rd_L1 x7_3 x9_2).length : Int) := of_decide_eq_true (by first | (with_reducible assumption) | assumption); obtain ⟨ad118, e118, hx118_0⟩ := Kd.at_int (by repeat (first | (with_reducible exact HR117_0.out) | (with_reducible refine Kd.C_alloc ?_ _) | (with_reducible refine Kd.C_drewN ?_ _) | (with_reducible refine Kd.C_drew ?_) | exact HR117_0.out)) (ji40) p118 q118; cases e118; replace p118 := eq_true p118; replace q118 := eq_true q118; have q118y : ((ji40 : Int) < ((rd_L1 x7_2 x9_2).length : Int)) = True := (by rw [HN.out]; exact q118); have p119 : 0 ≤ (x9_2 : Int) := of_decide_eq_true (by first | (with_reducible assumption) | assumption); have q119 : x9_2 < (x7_3.length : Int) := of_decide_eq_true (by first | (with_reducible assumption) | assumption); obtain ⟨ad119, A119_0, c119_0, e119, hx119_0, hl119_0, hi119_0⟩ := at_L1 (Kd.S_reads' HO_7.out).2.2 x9_2 p119 q119; obtain rfl : ad109 = ad119 := (by injection e119); obtain ⟨ce119, hce119, hMe119, hcc119⟩ := Kd.S_get HO_7.out [] x9_2 p119 (by first | exact q119 | exact of_decide_eq_true (by first | (with_reducible assumption) | assumption) | (have e_ := (Kd.S_reads' HO_7.out).1; omega)); obtain ⟨ve119_0, rfl, ge119_0⟩ := hMe119; have hv119_0 := hcc119 0 _ rfl; rw [Nat.add_zero, show ((Kd.slice 3 (Kd.int .i64))).sz = 1 from rfl, Nat.mul_one] at hv119_0; replace hv119_0 := Option.some.inj (hv119_0.symm.trans hx119_0); rw [hv119_0] at ge119_0; have HL119_0 := Aside0.mk (show Kd.R (Kd.int .i64) 3 _ _ _ _ (rd_L1 x7_3 x9_2) from ge119_0); clear hv119_0 ge119_0; have HX119_0 := Aside0.mk hx119_0; clear hcc119 hce119; have HR119_0 := Aside0.mk hi119_0; have HC119_0 := Aside0.mk hl119_0; clear hi119_0 hl119_0; replace p119 := eq_true p119; replace q119 := eq_true q119; have ea_ := Option.some.inj (hx117_0.symm.trans hx119_0); injection ea_ with ea_ en_ ec_; subst ea_; subst ec_; clear en_) | ((with_reducible refine gate_callee (f := 51) rfl ?_); refine goesL_ (some 64) rfl rfl Try.func51 (by kernel_rfl) rfl #[.int .i64 (wrap64 ((wrap64 (0 + (rd (rd_L1 x7_3 (ji32)) x11_3))) + (rd (rd_L1 x7_3 x9_2) (ji40)))), .int .i64 1000000000000001] rfl (by (try simp only [List.map_toArray, List.map_cons, List.map_nil]); first | done | (simp only [Int.zero_add]; done) | (simp only [Int.zero_add]; rfl) | (simp only [Int.zero_add, hji32, hji40]; rfl) | (simp only [Int.zero_add, hji32]; rfl) | (simp only [hji32, hji40]; rfl) | rfl | (simp only [List.length_drop, List.length_take]; rfl)) ?_; (with_reducible refine (spec_l1Least.calls (wrap64 ((wrap64 (0 + (rd (rd_L1 x7_3 (ji32)) x11_3))) + (rd (rd_L1 x7_3 x9_2) (ji40)))) 1000000000000001 t120 _ A43.out).mono ?_); rintro e w' ⟨rfl, ⟨nd, rfl⟩⟩; refine ⟨_, rfl, ?_⟩; (try (rw [drewN_self w47]; generalize hq_ : World.drewN w47 _ = w47; have nW_ : Aside0 (RowAt 52 w47 (.slice (some ad109) 0 0) (x9_2 : Int).toNat (.slice (some ad118) (rd_L1 x7_2 x9_2).length c109_0)) := ⟨by rw [← hq_]; exact (RowAt.drewN HW.out _)⟩; have nX_ : Aside0 (w47.cell? (ad109.add (x9_2).toNat) = some (.slice (some ad118) (rd_L1 x7_3 x9_2).length c109_0)) := ⟨by rw [← hq_]; exact HX119_0.out⟩; have n0_ : Aside0 (Kd.R (Kd.int .i64) 3 w47 w.heap.size (fun k_ => some k_ ≠ (.slice (some ad109) x7_3.length co17 : Value).ownBlock) (.slice (some ad116) (rd_L1 x7_3 (ji32)).length c115_0) (rd_L1 x7_3 (ji32))) := ⟨by rw [← hq_]; exact (by (with_reducible repeat (first | apply Kd.R_alloc | apply Kd.R_drewN | apply Kd.R_drew)); exact Kd.R_mono HL115_0.out (fun _ hk => hk.2))⟩; have n1_ : Aside0 (Kd.R (Kd.int .i64) 3 w47 w.heap.size (fun k_ => some k_ ≠ (.slice (some ad109) x7_3.length co17 : Value).ownBlock) (.slice (some ad118) (rd_L1 x7_3 x9_2).length c109_0) (rd_L1 x7_3 x9_2)) := ⟨by rw [← hq_]; exact (by (with_reducible repeat (first | apply Kd.R_alloc | apply Kd.R_drewN | apply Kd.R_drew)); exact Kd.R_mono HL117_0.out (fun _ hk => hk.2))⟩; have n2_ : Aside0 (Kd.R (Kd.int .i64) 3 w47 w.heap.size (fun k_ => some k_ ≠ (.slice (some ad109) x7_3.length co17 : Value).ownBlock) (.slice (some ad118) (rd_L1 x7_3 x9_2).length c109_0) (rd_L1 x7_3 x9_2)) := ⟨by rw [← hq_]; exact (by (with_reducible repeat (first | apply Kd.R_alloc | apply Kd.R_drewN | apply Kd.R_drew)); exact Kd.R_mono HL119_0.out (fun _ hk => hk.2))⟩; have n3_ : Aside0 (Kd.S (Kd.slice 3 (Kd.int .i64)) 52 w47 w.heap.size (fun _ => True) (.slice (some ad109) x7_3.length co17) x7_3) := ⟨by rw [← hq_]; exact (by (with_reducible repeat (first | apply Kd.S_alloc | apply Kd.S_drewN | apply Kd.S_drew)); exact HO_7.out)⟩; have n4_ : Aside0 (w47.heap[gb102]? = some (.cells #[.int .i64 a0_0, .int .i64 a0_1] 31 (0, 0))) := ⟨by rw [← hq_]; exact (by (with_reducible repeat (first | refine blk_drewN ?_ _ | refine blk_drew ?_ | refine blk_alloc ?_ _)); exact BK102.out)⟩; have n5_ : Aside0 (Below w.heap.size w w47) := ⟨by rw [← hq_]; exact (by repeat (first | (with_reducible first | exact HB.out | apply below_alloc | apply pw_below_drewN | apply below_drew1 | refine below_set ?_ GE102.out) | exact HB.out))⟩; have n6_ : Aside0 (Kd.C (Kd.int .i64) w47 (some ad116) (rd_L1 x7_3 (ji32)).length (rd_L1 x7_3 (ji32))) := ⟨by rw [← hq_]; exact (by repeat (first | (with_reducible exact HR115_0.out) | (with_reducible refine Kd.C_alloc ?_ _) | (with_reducible refine Kd.C_drewN ?_ _) | (with_reducible refine Kd.C_drew ?_) | exact HR115_0.out))⟩; have n7_ : Aside0 (Kd.C (Kd.int .i64) w47 (some ad118) (rd_L1 x7_3 x9_2).length (rd_L1 x7_3 x9_2)) := ⟨by rw [← hq_]; exact (by repeat (first | (with_reducible exact HR117_0.out) | (with_reducible refine Kd.C_alloc ?_ _) | (with_reducible refine Kd.C_drewN ?_ _) | (with_reducible refine Kd.C_drew ?_) | exact HR117_0.out))⟩; have n8_ : Aside0 (Kd.C (Kd.int .i64) w47 (some ad118) (rd_L1 x7_3 x9_2).length (rd_L1 x7_3 x9_2)) := ⟨by rw [← hq_]; exact (by repeat (first | (with_reducible exact HR119_0.out) | (with_reducible refine Kd.C_alloc ?_ _) | (with_reducible refine Kd.C_drewN ?_ _) | (with_reducible refine Kd.C_drew ?_) | exact HR119_0.out))⟩; clear HL115_0 HL117_0 HL119_0 HO_7 BK102 HB HW HR115_0 HR117_0 HR119_0 hq_; clear HX119_0; have HX119_0 := nX_; have HW := nW_; have HL115_0 := n0_; have HL117_0 := n1_; have HL119_0 := n2_; have HO_7 := n3_; have BK102 := n4_; have HB := n5_; have HR115_0 := n6_; have HR117_0 := n7_; have HR119_0 := n8_; clear n0_ n1_ n2_ n3_ n4_ n5_ n6_ n7_ n8_ nW_ nX_)); have p45 : 0 ≤ (x11_3 : Int) := of_decide_eq_true (by first | (with_reducible assumption) | assumption); have q45 : (x11_3 : Int) < (((rd_L1 x7_3 x9_2).length : Int) : Int) := of_decide_eq_true (by first | (with_reducible assumption) | assumption); obtain ⟨go45, co45, eo45, gb45, gl45, cl45, HG45⟩ := Kd.R_form HL119_0.out (by omega); (first | cases eo45 | (injection eo45 with ea_ en_ ec_; (first | subst ea_ | (injection ea_ with ea_; subst ea_)); subst ec_; clear en_)); have GB45 := Aside0.mk gb45; have GG45 := Aside0.mk HG45; clear gb45 gl45 HG45; (first | simp only [add_plain] at hx118_0 | skip); obtain ⟨hx45_0, hf45_0⟩ := Kd.R_celln 0 HL119_0.out (x11_3 : Int) p45 q45; replace p45 := eq_true p45; replace q45 := eq_true q45; have q45y : ((x11_3 : Int) < ((rd_L1 x7_2 x9_2).length : Int)) = True := (by rw [HN.out]; exact q45); have hq48 : (x9_2 : Int) < (x7_3.length : Int) := (by have h_ : (x9_2 : Int) < ((x7_3.length : Int) : Int) := of_decide_eq_true (by first | (with_reducible assumption) | assumption); first | exact h_ | (have e_ := (Kd.S_reads' HO_7.out).1; omega) | simpa only [List.length_set, List.length_set] using h_); obtain ⟨oki48, ce48, hcl48, hM48, hcc48, hok48, hbk48⟩ := Kd.S_borrow HO_7.out [] (x9_2 : Int) (of_decide_eq_true (by first | (with_reducible assumption) | assumption)) hq48; obtain ⟨ve48_0, rfl, ge48_0⟩ := hM48; have hv48 := hcc48 0 _ rfl; rw [Nat.add_zero, show ((Kd.slice 3 (Kd.int .i64))).sz = 1 from rfl, Nat.mul_one] at hv48; replace hv48 := Option.some.inj (hv48.symm.trans HX119_0.out); subst hv48; clear hcc48 hcl48; replace ge48_0 := (show Kd.R (Kd.int .i64) 3 _ _ _ _ (rd_L1 x7_3 x9_2) from ge48_0); have HP48 := Kd.R_putg ge48_0 (x11_3 : Int) t120) | ((with_reducible refine gate_store (t := 3) (p := 65) rfl ?_); refine store_event (t := 3) (p := 65) (v := ?vo_w49) (w1 := (w47.setCell ⟨go45, (x11_3 : Int).toNat, none⟩ (.int .i64 t120))) ?hg ?ho ?hn ?hr ?_; (case ho => rfl); (case hg => rfl); (case hn => rfl); (case hr => first | (go_simp; done) | (go_simp; rfl)); intro w49 hw; have hg : w47.grownBy w49 (some go45) := (by rw [hw]; exact HP48.2); have hz_ : Kd.R (Kd.int .i64) 3 w49 w.heap.size oki48 (.slice (some ⟨go45, 0, none⟩) (rd_L1 x7_3 x9_2).length c109_0) y121 := (by rw [hw, Ny121.out]; exact HP48.1); have hp_ : Kd.S (Kd.slice 3 (Kd.int .i64)) 52 w49 w.heap.size (fun _ => True) (.slice (some ad109) x7_3.length co17) y123 := (by rw [Ny123.out]; exact hbk48 hg (fun k_ e_ => by injection e_ with e_; subst e_; exact ge48_0.1 _ rfl) (Kd.M_row hz_)); have hm_ := Kd.R_mono hz_ hok48; clear HP48 hbk48; have nW_ := Aside0.mk (RowAt.grown HW.out hg ⟨_, GG45.out⟩ (by decide : (52 : Nat) ≠ 3)); clear HW; have HW := nW_; clear nW_; have n0_ := Aside0.mk (hp_); have n1_ := Aside0.mk (blk_grown (g := gb102) (o := .cells #[.int .i64 a0_0, .int .i64 a0_1] 31 (0, 0)) (by (with_reducible repeat (first | refine blk_drewN ?_ _ | refine blk_drew ?_ | refine blk_alloc ?_ _)); exact BK102.out) hg (Kd.R_ne HL119_0.out BK102.out (by decide))); have n2_ := Aside0.mk ((by rw [hw]; exact below_set (HB.out) GB45.out : Below w.heap.size w w49)); have n3_ := Aside0.mk (hm_); have n4_ := Aside0.mk ((Kd.R_reads' hm_).2.1); clear HO_7; clear BK102; clear HB; clear HL115_0; clear HL117_0; clear HL119_0; have HO_7 := n0_; have BK102 := n1_; have HB := n2_; have HL142 := n3_; have HC122 := n4_; clear n0_ n1_ n2_ n3_ n4_; clear hg hw hp_ hz_ hm_ hok48))
                                                      (try simp only [← hl7_3])
                                                      go_roundg kj18
                                                      case measure => have := HK1.out; have := HK2.out; have := HK3.out; have := HJ18.out; omega
                                                      case rel => exact ⟨(y123), (wrap64 (x11_3 - 1)), (by first | rfl | (simp; done) | (simp [*]; done)), H', ⟨by have := HK1.out; have := HK2.out; have := HK3.out; have := HJ18.out; omega⟩, ⟨by (with_reducible repeat (first | refine RowAt.drewN ?_ _ | refine RowAt.drew ?_ | refine RowAt.alloc ?_ _)); exact HW.out⟩, ⟨by (try simp only [hl7_3]); (with_reducible repeat (first | apply Kd.S_alloc | apply Kd.S_drewN | apply Kd.S_drew)); exact HO_7.out⟩, ⟨by (try simp only [hl7_3]); (with_reducible repeat (first | refine blk_drewN ?_ _ | refine blk_drew ?_ | refine blk_alloc ?_ _)); exact BK102.out⟩, ⟨by repeat (first | (with_reducible first | exact HB.out | apply below_alloc | apply pw_below_drewN | apply below_drew1 | refine below_set ?_ GE102.out) | exact HB.out)⟩⟩
                                                    · rw [if_neg c44] at H
                                                      exact absurd H (by simp)
                                                  · rw [if_neg c42] at H
                                                    exact absurd H (by simp)
                                                · rw [if_neg c41] at H
                                                  exact absurd H (by simp)
                                              · rw [if_neg c39] at H
                                                exact absurd H (by simp)
                                            · rw [if_neg c38] at H
                                              exact absurd H (by simp)
                                          · rw [if_neg c37] at H
                                            have c37b0 : decide (x11_3 < a2) = false := decide_eq_false c37
                                            clear c37
                                            by_cases c50 : 0 ≤ x9_2
                                            · rw [if_pos c50] at H
                                              have c50b0 : decide (0 ≤ x9_2) = true := decide_eq_true c50
                                              clear c50
                                              by_cases c51 : x9_2 < (x7_3.length : Int)
                                              · rw [if_pos c51] at H
                                                have c51b0 : decide (x9_2 < (x7_3.length : Int)) = true := decide_eq_true c51
                                                clear c51
                                                replace H := Option.bind_eq_some_iff.mp H
                                                obtain ⟨t125, A520, H⟩ := H
                                                replace H : (if x11_3 < ((rd_L1 x7_3 x9_2).length : Int) then (spec_raBack.l2 kj18 a1 a2 (x7_3.set (x9_2 : Int).toNat ((rd_L1 x7_3 x9_2).set (x11_3 : Int).toNat t125)) x9_2 (wrap64 (x11_3 - 1)) a0_0 a0_1) else (none)) = some r := H
                                                have A52 := Aside0.mk A520
                                                clear A520
                                                by_cases c53 : x11_3 < ((rd_L1 x7_3 x9_2).length : Int)
                                                · rw [if_pos c53] at H
                                                  have c53b0 : decide (x11_3 < ((rd_L1 x7_3 x9_2).length : Int)) = true := decide_eq_true c53
                                                  clear c53
                                                  obtain ⟨y126, hy126⟩ : ∃ y_ : List Int, y_ = ((rd_L1 x7_3 x9_2).set (x11_3 : Int).toNat t125) := ⟨_, rfl⟩
                                                  replace H : (spec_raBack.l2 kj18 a1 a2 (x7_3.set (x9_2 : Int).toNat y126) x9_2 (wrap64 (x11_3 - 1)) a0_0 a0_1) = some r := by first | (rw [hy126]; with_reducible exact H) | (have H2_ := (Option.bind_some _ _).symm.trans H; rw [hy126]; with_reducible exact H2_) | (have H2_ := (Option.bind_some _ _).symm.trans H; with_reducible exact H2_) | with_reducible exact H | (rw [hy126]; exact H) | exact H
                                                  have Ny126 := Aside0.mk hy126
                                                  clear hy126
                                                  obtain ⟨y128, hy128⟩ : ∃ y_ : List (List Int), y_ = (x7_3.set (x9_2 : Int).toNat y126) := ⟨_, rfl⟩
                                                  replace H : (spec_raBack.l2 kj18 a1 a2 y128 x9_2 (wrap64 (x11_3 - 1)) a0_0 a0_1) = some r := by first | (rw [hy128]; with_reducible exact H) | (have H2_ := (Option.bind_some _ _).symm.trans H; rw [hy128]; with_reducible exact H2_) | (have H2_ := (Option.bind_some _ _).symm.trans H; with_reducible exact H2_) | with_reducible exact H | (rw [hy128]; exact H) | exact H
                                                  have Ny128 := Aside0.mk hy128
                                                  clear hy128
                                                  have H' := Aside0.mk H
                                                  clear H
                                                  have hcz55_0 : wc.cell? ⟨gb102, 0, none⟩ = some (.int .i64 a0_0) := (blk_cell BK102.out 0).trans rfl
                                                  have hcz55_1 : wc.cell? ⟨gb102, 1, none⟩ = some (.int .i64 a0_1) := (blk_cell BK102.out 1).trans rfl
                                                  have hfz55_0 := blk_frozen BK102.out 0
                                                  have hfz55_1 := blk_frozen BK102.out 1
                                                  go_wp2_with (first | ((with_reducible refine gate_callee (f := 37) rfl ?_); refine goesL_ (some 82) rfl rfl Try.func37 (by kernel_rfl) rfl #[.agg #[.int .i64 a0_0, .int .i64 a0_1], .int .i64 x9_2, .int .i64 x11_3] rfl (by (try simp only [List.map_toArray, List.map_cons, List.map_nil]); first | done | (simp only [Int.zero_add]; done) | (simp only [Int.zero_add]; rfl) | (simp only [Int.zero_add, hji32, hji40]; rfl) | (simp only [Int.zero_add, hji32]; rfl) | rfl | (simp only [List.length_drop, List.length_take]; rfl)) ?_; (with_reducible refine (spec_raWon.calls kj18 a0_0 a0_1 x9_2 x11_3 t114 _ A29.out).mono ?_); rintro e w56 ⟨rfl, hb⟩; refine ⟨_, rfl, ?_⟩; have nW_ := Aside0.mk (RowAt.below (by (with_reducible repeat (first | refine RowAt.drewN ?_ _ | refine RowAt.drew ?_ | refine RowAt.alloc ?_ _)); exact HW.out) hb); have n0_ := Aside0.mk (Kd.S_below (by (with_reducible repeat (first | apply Kd.S_alloc | apply Kd.S_drewN | apply Kd.S_drew)); exact HO_7.out) hb); have n1_ := Aside0.mk (blk_below (g := gb102) (o := .cells #[.int .i64 a0_0, .int .i64 a0_1] 31 (0, 0)) (by (with_reducible repeat (first | refine blk_drewN ?_ _ | refine blk_drew ?_ | refine blk_alloc ?_ _)); exact BK102.out) hb); have n2_ := Aside0.mk (below_step (by repeat (first | (with_reducible first | exact HB.out | apply below_alloc | apply pw_below_drewN | apply below_drew1 | refine below_set ?_ GE102.out) | exact HB.out)) hb); clear HO_7; clear BK102; clear HB; clear HW; have HO_7 := n0_; have BK102 := n1_; have HB := n2_; have HW := nW_; clear n0_ n1_ n2_ nW_; (try clear hb); (try clear hb2); (try clear hk); (try clear hi); have p115 : 0 ≤ ((ji32) : Int) := of_decide_eq_true (by first | (with_reducible assumption) | assumption); have q115 : (ji32) < (x7_3.length : Int) := of_decide_eq_true (by first | (with_reducible assumption) | assumption); obtain ⟨ad115, A115_0, c115_0, e115, hx115_0, hl115_0, hi115_0⟩ := at_L1 (Kd.S_reads' HO_7.out).2.2 (ji32) p115 q115; obtain rfl : ad109 = ad115 := (by injection e115); obtain ⟨ce115, hce115, hMe115, hcc115⟩ := Kd.S_get HO_7.out [] (ji32) p115 (by first | exact q115 | exact of_decide_eq_true (by first | (with_reducible assumption) | assumption) | (have e_ := (Kd.S_reads' HO_7.out).1; omega)); obtain ⟨ve115_0, rfl, ge115_0⟩ := hMe115; have hv115_0 := hcc115 0 _ rfl; rw [Nat.add_zero, show ((Kd.slice 3 (Kd.int .i64))).sz = 1 from rfl, Nat.mul_one] at hv115_0; replace hv115_0 := Option.some.inj (hv115_0.symm.trans hx115_0); rw [hv115_0] at ge115_0; have HL115_0 := Aside0.mk (show Kd.R (Kd.int .i64) 3 _ _ _ _ (rd_L1 x7_3 (ji32)) from ge115_0); clear hv115_0 ge115_0; have HX115_0 := Aside0.mk hx115_0; clear hcc115 hce115; have HR115_0 := Aside0.mk hi115_0; have HC115_0 := Aside0.mk hl115_0; clear hi115_0 hl115_0; replace p115 := eq_true p115; replace q115 := eq_true q115; have p116 : 0 ≤ (x11_3 : Int) := of_decide_eq_true (by first | (with_reducible assumption) | assumption); have q116 : x11_3 < ((rd_L1 x7_3 (ji32)).length : Int) := of_decide_eq_true (by first | (with_reducible assumption) | assumption); obtain ⟨ad116, e116, hx116_0⟩ := Kd.at_int (by repeat (first | (with_reducible exact HR115_0.out) | (with_reducible refine Kd.C_alloc ?_ _) | (with_reducible refine Kd.C_drewN ?_ _) | (with_reducible refine Kd.C_drew ?_) | exact HR115_0.out)) x11_3 p116 q116; cases e116; replace p116 := eq_true p116; replace q116 := eq_true q116; have p124 : 0 ≤ (x9_2 : Int) := of_decide_eq_true (by first | (with_reducible assumption) | assumption); have q124 : x9_2 < (x7_3.length : Int) := of_decide_eq_true (by first | (with_reducible assumption) | assumption); obtain ⟨ad124, A124_0, c124_0, e124, hx124_0, hl124_0, hi124_0⟩ := at_L1 (Kd.S_reads' HO_7.out).2.2 x9_2 p124 q124; obtain rfl : ad109 = ad124 := (by injection e124); obtain ⟨ce124, hce124, hMe124, hcc124⟩ := Kd.S_get HO_7.out [] x9_2 p124 (by first | exact q124 | exact of_decide_eq_true (by first | (with_reducible assumption) | assumption) | (have e_ := (Kd.S_reads' HO_7.out).1; omega)); obtain ⟨ve124_0, rfl, ge124_0⟩ := hMe124; have hv124_0 := hcc124 0 _ rfl; rw [Nat.add_zero, show ((Kd.slice 3 (Kd.int .i64))).sz = 1 from rfl, Nat.mul_one] at hv124_0; replace hv124_0 := Option.some.inj (hv124_0.symm.trans hx124_0); rw [hv124_0] at ge124_0; have HL124_0 := Aside0.mk (show Kd.R (Kd.int .i64) 3 _ _ _ _ (rd_L1 x7_3 x9_2) from ge124_0); clear hv124_0 ge124_0; have HX124_0 := Aside0.mk hx124_0; clear hcc124 hce124; have HR124_0 := Aside0.mk hi124_0; have HC124_0 := Aside0.mk hl124_0; clear hi124_0 hl124_0; have hs_ := RowAt.same2 HW.out HX124_0.out; injection hs_ with ha_ hn_ hc_; subst ha_; subst hc_; have HN := Aside0.mk hn_; clear hn_; replace p124 := eq_true p124; replace q124 := eq_true q124) | ((with_reducible refine gate_callee (f := 51) rfl ?_); refine goesL_ (some 64) rfl rfl Try.func51 (by kernel_rfl) rfl #[.int .i64 (wrap64 (0 + (rd (rd_L1 x7_3 (ji32)) x11_3))), .int .i64 1000000000000001] rfl (by (try simp only [List.map_toArray, List.map_cons, List.map_nil]); first | done | (simp only [Int.zero_add]; done) | (simp only [Int.zero_add]; rfl) | (simp only [Int.zero_add, hji32, hji40]; rfl) | (simp only [Int.zero_add, hji32]; rfl) | (simp only [hji32]; rfl) | rfl | (simp only [List.length_drop, List.length_take]; rfl)) ?_; (with_reducible refine (spec_l1Least.calls (wrap64 (0 + (rd (rd_L1 x7_3 (ji32)) x11_3))) 1000000000000001 t125 _ A52.out).mono ?_); rintro e w' ⟨rfl, ⟨nd, rfl⟩⟩; refine ⟨_, rfl, ?_⟩; (try (rw [drewN_self w56]; generalize hq_ : World.drewN w56 _ = w56; have nW_ : Aside0 (RowAt 52 w56 (.slice (some ad109) 0 0) (x9_2 : Int).toNat (.slice A109_0 (rd_L1 x7_2 x9_2).length c109_0)) := ⟨by rw [← hq_]; exact (RowAt.drewN HW.out _)⟩; have nX_ : Aside0 (w56.cell? (ad109.add (x9_2).toNat) = some (.slice A109_0 (rd_L1 x7_3 x9_2).length c109_0)) := ⟨by rw [← hq_]; exact HX124_0.out⟩; have n0_ : Aside0 (Kd.R (Kd.int .i64) 3 w56 w.heap.size (fun k_ => some k_ ≠ (.slice (some ad109) x7_3.length co17 : Value).ownBlock) (.slice (some ad116) (rd_L1 x7_3 (ji32)).length c115_0) (rd_L1 x7_3 (ji32))) := ⟨by rw [← hq_]; exact (by (with_reducible repeat (first | apply Kd.R_alloc | apply Kd.R_drewN | apply Kd.R_drew)); exact Kd.R_mono HL115_0.out (fun _ hk => hk.2))⟩; have n1_ : Aside0 (Kd.R (Kd.int .i64) 3 w56 w.heap.size (fun k_ => some k_ ≠ (.slice (some ad109) x7_3.length co17 : Value).ownBlock) (.slice A109_0 (rd_L1 x7_3 x9_2).length c109_0) (rd_L1 x7_3 x9_2)) := ⟨by rw [← hq_]; exact (by (with_reducible repeat (first | apply Kd.R_alloc | apply Kd.R_drewN | apply Kd.R_drew)); exact Kd.R_mono HL124_0.out (fun _ hk => hk.2))⟩; have n2_ : Aside0 (Kd.S (Kd.slice 3 (Kd.int .i64)) 52 w56 w.heap.size (fun _ => True) (.slice (some ad109) x7_3.length co17) x7_3) := ⟨by rw [← hq_]; exact (by (with_reducible repeat (first | apply Kd.S_alloc | apply Kd.S_drewN | apply Kd.S_drew)); exact HO_7.out)⟩; have n3_ : Aside0 (w56.heap[gb102]? = some (.cells #[.int .i64 a0_0, .int .i64 a0_1] 31 (0, 0))) := ⟨by rw [← hq_]; exact (by (with_reducible repeat (first | refine blk_drewN ?_ _ | refine blk_drew ?_ | refine blk_alloc ?_ _)); exact BK102.out)⟩; have n4_ : Aside0 (Below w.heap.size w w56) := ⟨by rw [← hq_]; exact (by repeat (first | (with_reducible first | exact HB.out | apply below_alloc | apply pw_below_drewN | apply below_drew1 | refine below_set ?_ GE102.out) | exact HB.out))⟩; have n5_ : Aside0 (Kd.C (Kd.int .i64) w56 (some ad116) (rd_L1 x7_3 (ji32)).length (rd_L1 x7_3 (ji32))) := ⟨by rw [← hq_]; exact (by repeat (first | (with_reducible exact HR115_0.out) | (with_reducible refine Kd.C_alloc ?_ _) | (with_reducible refine Kd.C_drewN ?_ _) | (with_reducible refine Kd.C_drew ?_) | exact HR115_0.out))⟩; have n6_ : Aside0 (Kd.C (Kd.int .i64) w56 A109_0 (rd_L1 x7_3 x9_2).length (rd_L1 x7_3 x9_2)) := ⟨by rw [← hq_]; exact (by repeat (first | (with_reducible exact HR124_0.out) | (with_reducible refine Kd.C_alloc ?_ _) | (with_reducible refine Kd.C_drewN ?_ _) | (with_reducible refine Kd.C_drew ?_) | exact HR124_0.out))⟩; clear HL115_0 HL124_0 HO_7 BK102 HB HW HR115_0 HR124_0 hq_; clear HX124_0; have HX124_0 := nX_; have HW := nW_; have HL115_0 := n0_; have HL124_0 := n1_; have HO_7 := n2_; have BK102 := n3_; have HB := n4_; have HR115_0 := n5_; have HR124_0 := n6_; clear n0_ n1_ n2_ n3_ n4_ n5_ n6_ nW_ nX_)); have p54 : 0 ≤ (x11_3 : Int) := of_decide_eq_true (by first | (with_reducible assumption) | assumption); have q54 : (x11_3 : Int) < (((rd_L1 x7_3 x9_2).length : Int) : Int) := of_decide_eq_true (by first | (with_reducible assumption) | assumption); obtain ⟨go54, co54, eo54, gb54, gl54, cl54, HG54⟩ := Kd.R_form HL124_0.out (by omega); (first | cases eo54 | (injection eo54 with ea_ en_ ec_; (first | subst ea_ | (injection ea_ with ea_; subst ea_)); subst ec_; clear en_)); have GB54 := Aside0.mk gb54; have GG54 := Aside0.mk HG54; clear gb54 gl54 HG54; obtain ⟨hx54_0, hf54_0⟩ := Kd.R_celln 0 HL124_0.out (x11_3 : Int) p54 q54; replace p54 := eq_true p54; replace q54 := eq_true q54; have q54y : ((x11_3 : Int) < ((rd_L1 x7_2 x9_2).length : Int)) = True := (by rw [HN.out]; exact q54); have hq57 : (x9_2 : Int) < (x7_3.length : Int) := (by have h_ : (x9_2 : Int) < ((x7_3.length : Int) : Int) := of_decide_eq_true (by first | (with_reducible assumption) | assumption); first | exact h_ | (have e_ := (Kd.S_reads' HO_7.out).1; omega) | simpa only [List.length_set, List.length_set] using h_); obtain ⟨oki57, ce57, hcl57, hM57, hcc57, hok57, hbk57⟩ := Kd.S_borrow HO_7.out [] (x9_2 : Int) (of_decide_eq_true (by first | (with_reducible assumption) | assumption)) hq57; obtain ⟨ve57_0, rfl, ge57_0⟩ := hM57; have hv57 := hcc57 0 _ rfl; rw [Nat.add_zero, show ((Kd.slice 3 (Kd.int .i64))).sz = 1 from rfl, Nat.mul_one] at hv57; replace hv57 := Option.some.inj (hv57.symm.trans HX124_0.out); subst hv57; clear hcc57 hcl57; replace ge57_0 := (show Kd.R (Kd.int .i64) 3 _ _ _ _ (rd_L1 x7_3 x9_2) from ge57_0); have HP57 := Kd.R_putg ge57_0 (x11_3 : Int) t125) | ((with_reducible refine gate_store (t := 3) (p := 65) rfl ?_); refine store_event (t := 3) (p := 65) (v := ?vo_w58) (w1 := (w56.setCell ⟨go54, (x11_3 : Int).toNat, none⟩ (.int .i64 t125))) ?hg ?ho ?hn ?hr ?_; (case ho => rfl); (case hg => rfl); (case hn => rfl); (case hr => first | (go_simp; done) | (go_simp; rfl)); intro w58 hw; have hg : w56.grownBy w58 (some go54) := (by rw [hw]; exact HP57.2); have hz_ : Kd.R (Kd.int .i64) 3 w58 w.heap.size oki57 (.slice (some ⟨go54, 0, none⟩) (rd_L1 x7_3 x9_2).length c109_0) y126 := (by rw [hw, Ny126.out]; exact HP57.1); have hp_ : Kd.S (Kd.slice 3 (Kd.int .i64)) 52 w58 w.heap.size (fun _ => True) (.slice (some ad109) x7_3.length co17) y128 := (by rw [Ny128.out]; exact hbk57 hg (fun k_ e_ => by injection e_ with e_; subst e_; exact ge57_0.1 _ rfl) (Kd.M_row hz_)); have hm_ := Kd.R_mono hz_ hok57; clear HP57 hbk57; have nW_ := Aside0.mk (RowAt.grown HW.out hg ⟨_, GG54.out⟩ (by decide : (52 : Nat) ≠ 3)); clear HW; have HW := nW_; clear nW_; have n0_ := Aside0.mk (hp_); have n1_ := Aside0.mk (blk_grown (g := gb102) (o := .cells #[.int .i64 a0_0, .int .i64 a0_1] 31 (0, 0)) (by (with_reducible repeat (first | refine blk_drewN ?_ _ | refine blk_drew ?_ | refine blk_alloc ?_ _)); exact BK102.out) hg (Kd.R_ne HL124_0.out BK102.out (by decide))); have n2_ := Aside0.mk ((by rw [hw]; exact below_set (HB.out) GB54.out : Below w.heap.size w w58)); have n3_ := Aside0.mk (hm_); have n4_ := Aside0.mk ((Kd.R_reads' hm_).2.1); clear HO_7; clear BK102; clear HB; clear HL115_0; clear HL124_0; have HO_7 := n0_; have BK102 := n1_; have HB := n2_; have HL143 := n3_; have HC127 := n4_; clear n0_ n1_ n2_ n3_ n4_; clear hg hw hp_ hz_ hm_ hok57))
                                                  (try simp only [← hl7_3])
                                                  go_roundg kj18
                                                  case measure => have := HK1.out; have := HK2.out; have := HK3.out; have := HJ18.out; omega
                                                  case rel => exact ⟨(y128), (wrap64 (x11_3 - 1)), (by first | rfl | (simp; done) | (simp [*]; done)), H', ⟨by have := HK1.out; have := HK2.out; have := HK3.out; have := HJ18.out; omega⟩, ⟨by (with_reducible repeat (first | refine RowAt.drewN ?_ _ | refine RowAt.drew ?_ | refine RowAt.alloc ?_ _)); exact HW.out⟩, ⟨by (try simp only [hl7_3]); (with_reducible repeat (first | apply Kd.S_alloc | apply Kd.S_drewN | apply Kd.S_drew)); exact HO_7.out⟩, ⟨by (try simp only [hl7_3]); (with_reducible repeat (first | refine blk_drewN ?_ _ | refine blk_drew ?_ | refine blk_alloc ?_ _)); exact BK102.out⟩, ⟨by repeat (first | (with_reducible first | exact HB.out | apply below_alloc | apply pw_below_drewN | apply below_drew1 | refine below_set ?_ GE102.out) | exact HB.out)⟩⟩
                                                · rw [if_neg c53] at H
                                                  exact absurd H (by simp)
                                              · rw [if_neg c51] at H
                                                exact absurd H (by simp)
                                            · rw [if_neg c50] at H
                                              exact absurd H (by simp)
                                        · rw [if_neg c36] at H
                                          exact absurd H (by simp)
                                      · rw [if_neg c35] at H
                                        exact absurd H (by simp)
                                    · rw [if_neg c34] at H
                                      exact absurd H (by simp)
                                  · rw [if_neg c33] at H
                                    exact absurd H (by simp)
                                · rw [if_neg c31] at H
                                  have c31b0 : decide (x9_2 < a1) = false := decide_eq_false c31
                                  clear c31
                                  by_cases c59 : x11_3 < a2
                                  · rw [if_pos c59] at H
                                    have c59b0 : decide (x11_3 < a2) = true := decide_eq_true c59
                                    clear c59
                                    by_cases c60 : 0 ≤ x9_2
                                    · rw [if_pos c60] at H
                                      have c60b0 : decide (0 ≤ x9_2) = true := decide_eq_true c60
                                      clear c60
                                      by_cases c61 : x9_2 < (x7_3.length : Int)
                                      · rw [if_pos c61] at H
                                        have c61b0 : decide (x9_2 < (x7_3.length : Int)) = true := decide_eq_true c61
                                        clear c61
                                        obtain ⟨ji62, hji62⟩ : ∃ j_ : Int, (wrap64 (x11_3 + 1)) = j_ := ⟨_, rfl⟩
                                        replace H : (if 0 ≤ (ji62) then (if (ji62) < ((rd_L1 x7_3 x9_2).length : Int) then ((spec_l1Least.f (wrap64 (0 + (rd (rd_L1 x7_3 x9_2) (ji62)))) 1000000000000001).bind fun t132 => (if 0 ≤ x11_3 then (if x11_3 < ((rd_L1 x7_3 x9_2).length : Int) then (spec_raBack.l2 kj18 a1 a2 (x7_3.set (x9_2 : Int).toNat ((rd_L1 x7_3 x9_2).set (x11_3 : Int).toNat t132)) x9_2 (wrap64 (x11_3 - 1)) a0_0 a0_1) else (none)) else (none))) else (none)) else (none)) = some r := by first | (rw [hji62] at H; exact H) | (simp only [hji62] at H ⊢; exact H)
                                        (try rw [hji62] at A29)
                                        have hji62w : (IntKind.i64.wrap (x11_3 + 1)) = ji62 := (i64_w _).trans hji62
                                        by_cases c63 : 0 ≤ (ji62)
                                        · rw [if_pos c63] at H
                                          have c63b0 : decide (0 ≤ (ji62)) = true := decide_eq_true c63
                                          clear c63
                                          by_cases c64 : (ji62) < ((rd_L1 x7_3 x9_2).length : Int)
                                          · rw [if_pos c64] at H
                                            have c64b0 : decide ((ji62) < ((rd_L1 x7_3 x9_2).length : Int)) = true := decide_eq_true c64
                                            clear c64
                                            replace H := Option.bind_eq_some_iff.mp H
                                            obtain ⟨t132, A650, H⟩ := H
                                            replace H : (if 0 ≤ x11_3 then (if x11_3 < ((rd_L1 x7_3 x9_2).length : Int) then (spec_raBack.l2 kj18 a1 a2 (x7_3.set (x9_2 : Int).toNat ((rd_L1 x7_3 x9_2).set (x11_3 : Int).toNat t132)) x9_2 (wrap64 (x11_3 - 1)) a0_0 a0_1) else (none)) else (none)) = some r := H
                                            have A65 := Aside0.mk A650
                                            clear A650
                                            by_cases c66 : 0 ≤ x11_3
                                            · rw [if_pos c66] at H
                                              have c66b0 : decide (0 ≤ x11_3) = true := decide_eq_true c66
                                              clear c66
                                              by_cases c67 : x11_3 < ((rd_L1 x7_3 x9_2).length : Int)
                                              · rw [if_pos c67] at H
                                                have c67b0 : decide (x11_3 < ((rd_L1 x7_3 x9_2).length : Int)) = true := decide_eq_true c67
                                                clear c67
                                                obtain ⟨y133, hy133⟩ : ∃ y_ : List Int, y_ = ((rd_L1 x7_3 x9_2).set (x11_3 : Int).toNat t132) := ⟨_, rfl⟩
                                                replace H : (spec_raBack.l2 kj18 a1 a2 (x7_3.set (x9_2 : Int).toNat y133) x9_2 (wrap64 (x11_3 - 1)) a0_0 a0_1) = some r := by first | (rw [hy133]; with_reducible exact H) | (have H2_ := (Option.bind_some _ _).symm.trans H; rw [hy133]; with_reducible exact H2_) | (have H2_ := (Option.bind_some _ _).symm.trans H; with_reducible exact H2_) | with_reducible exact H | (rw [hy133]; exact H) | exact H
                                                have Ny133 := Aside0.mk hy133
                                                clear hy133
                                                obtain ⟨y135, hy135⟩ : ∃ y_ : List (List Int), y_ = (x7_3.set (x9_2 : Int).toNat y133) := ⟨_, rfl⟩
                                                replace H : (spec_raBack.l2 kj18 a1 a2 y135 x9_2 (wrap64 (x11_3 - 1)) a0_0 a0_1) = some r := by first | (rw [hy135]; with_reducible exact H) | (have H2_ := (Option.bind_some _ _).symm.trans H; rw [hy135]; with_reducible exact H2_) | (have H2_ := (Option.bind_some _ _).symm.trans H; with_reducible exact H2_) | with_reducible exact H | (rw [hy135]; exact H) | exact H
                                                have Ny135 := Aside0.mk hy135
                                                clear hy135
                                                have H' := Aside0.mk H
                                                clear H
                                                have hcz69_0 : wc.cell? ⟨gb102, 0, none⟩ = some (.int .i64 a0_0) := (blk_cell BK102.out 0).trans rfl
                                                have hcz69_1 : wc.cell? ⟨gb102, 1, none⟩ = some (.int .i64 a0_1) := (blk_cell BK102.out 1).trans rfl
                                                have hfz69_0 := blk_frozen BK102.out 0
                                                have hfz69_1 := blk_frozen BK102.out 1
                                                go_wp2_with (first | ((with_reducible refine gate_callee (f := 37) rfl ?_); refine goesL_ (some 82) rfl rfl Try.func37 (by kernel_rfl) rfl #[.agg #[.int .i64 a0_0, .int .i64 a0_1], .int .i64 x9_2, .int .i64 x11_3] rfl (by (try simp only [List.map_toArray, List.map_cons, List.map_nil]); first | done | (simp only [Int.zero_add]; done) | (simp only [Int.zero_add]; rfl) | (simp only [Int.zero_add, hji32, hji40]; rfl) | (simp only [Int.zero_add, hji32]; rfl) | rfl | (simp only [List.length_drop, List.length_take]; rfl)) ?_; (with_reducible refine (spec_raWon.calls kj18 a0_0 a0_1 x9_2 x11_3 t114 _ A29.out).mono ?_); rintro e w70 ⟨rfl, hb⟩; refine ⟨_, rfl, ?_⟩; have nW_ := Aside0.mk (RowAt.below (by (with_reducible repeat (first | refine RowAt.drewN ?_ _ | refine RowAt.drew ?_ | refine RowAt.alloc ?_ _)); exact HW.out) hb); have n0_ := Aside0.mk (Kd.S_below (by (with_reducible repeat (first | apply Kd.S_alloc | apply Kd.S_drewN | apply Kd.S_drew)); exact HO_7.out) hb); have n1_ := Aside0.mk (blk_below (g := gb102) (o := .cells #[.int .i64 a0_0, .int .i64 a0_1] 31 (0, 0)) (by (with_reducible repeat (first | refine blk_drewN ?_ _ | refine blk_drew ?_ | refine blk_alloc ?_ _)); exact BK102.out) hb); have n2_ := Aside0.mk (below_step (by repeat (first | (with_reducible first | exact HB.out | apply below_alloc | apply pw_below_drewN | apply below_drew1 | refine below_set ?_ GE102.out) | exact HB.out)) hb); clear HO_7; clear BK102; clear HB; clear HW; have HO_7 := n0_; have BK102 := n1_; have HB := n2_; have HW := nW_; clear n0_ n1_ n2_ nW_; (try clear hb); (try clear hb2); (try clear hk); (try clear hi); have p129 : 0 ≤ (x9_2 : Int) := of_decide_eq_true (by first | (with_reducible assumption) | assumption); have q129 : x9_2 < (x7_3.length : Int) := of_decide_eq_true (by first | (with_reducible assumption) | assumption); obtain ⟨ad129, A129_0, c129_0, e129, hx129_0, hl129_0, hi129_0⟩ := at_L1 (Kd.S_reads' HO_7.out).2.2 x9_2 p129 q129; obtain rfl : ad109 = ad129 := (by injection e129); obtain ⟨ce129, hce129, hMe129, hcc129⟩ := Kd.S_get HO_7.out [] x9_2 p129 (by first | exact q129 | exact of_decide_eq_true (by first | (with_reducible assumption) | assumption) | (have e_ := (Kd.S_reads' HO_7.out).1; omega)); obtain ⟨ve129_0, rfl, ge129_0⟩ := hMe129; have hv129_0 := hcc129 0 _ rfl; rw [Nat.add_zero, show ((Kd.slice 3 (Kd.int .i64))).sz = 1 from rfl, Nat.mul_one] at hv129_0; replace hv129_0 := Option.some.inj (hv129_0.symm.trans hx129_0); rw [hv129_0] at ge129_0; have HL129_0 := Aside0.mk (show Kd.R (Kd.int .i64) 3 _ _ _ _ (rd_L1 x7_3 x9_2) from ge129_0); clear hv129_0 ge129_0; have HX129_0 := Aside0.mk hx129_0; clear hcc129 hce129; have HR129_0 := Aside0.mk hi129_0; have HC129_0 := Aside0.mk hl129_0; clear hi129_0 hl129_0; have hs_ := RowAt.same2 HW.out HX129_0.out; injection hs_ with ha_ hn_ hc_; subst ha_; subst hc_; have HN := Aside0.mk hn_; clear hn_; replace p129 := eq_true p129; replace q129 := eq_true q129; have p130 : 0 ≤ ((ji62) : Int) := of_decide_eq_true (by first | (with_reducible assumption) | assumption); have q130 : (ji62) < ((rd_L1 x7_3 x9_2).length : Int) := of_decide_eq_true (by first | (with_reducible assumption) | assumption); obtain ⟨ad130, e130, hx130_0⟩ := Kd.at_int (by repeat (first | (with_reducible exact HR129_0.out) | (with_reducible refine Kd.C_alloc ?_ _) | (with_reducible refine Kd.C_drewN ?_ _) | (with_reducible refine Kd.C_drew ?_) | exact HR129_0.out)) (ji62) p130 q130; cases e130; replace p130 := eq_true p130; replace q130 := eq_true q130; have q130y : ((ji62 : Int) < ((rd_L1 x7_2 x9_2).length : Int)) = True := (by rw [HN.out]; exact q130); have p131 : 0 ≤ (x9_2 : Int) := of_decide_eq_true (by first | (with_reducible assumption) | assumption); have q131 : x9_2 < (x7_3.length : Int) := of_decide_eq_true (by first | (with_reducible assumption) | assumption); obtain ⟨ad131, A131_0, c131_0, e131, hx131_0, hl131_0, hi131_0⟩ := at_L1 (Kd.S_reads' HO_7.out).2.2 x9_2 p131 q131; obtain rfl : ad109 = ad131 := (by injection e131); obtain ⟨ce131, hce131, hMe131, hcc131⟩ := Kd.S_get HO_7.out [] x9_2 p131 (by first | exact q131 | exact of_decide_eq_true (by first | (with_reducible assumption) | assumption) | (have e_ := (Kd.S_reads' HO_7.out).1; omega)); obtain ⟨ve131_0, rfl, ge131_0⟩ := hMe131; have hv131_0 := hcc131 0 _ rfl; rw [Nat.add_zero, show ((Kd.slice 3 (Kd.int .i64))).sz = 1 from rfl, Nat.mul_one] at hv131_0; replace hv131_0 := Option.some.inj (hv131_0.symm.trans hx131_0); rw [hv131_0] at ge131_0; have HL131_0 := Aside0.mk (show Kd.R (Kd.int .i64) 3 _ _ _ _ (rd_L1 x7_3 x9_2) from ge131_0); clear hv131_0 ge131_0; have HX131_0 := Aside0.mk hx131_0; clear hcc131 hce131; have HR131_0 := Aside0.mk hi131_0; have HC131_0 := Aside0.mk hl131_0; clear hi131_0 hl131_0; replace p131 := eq_true p131; replace q131 := eq_true q131; have ea_ := Option.some.inj (hx129_0.symm.trans hx131_0); injection ea_ with ea_ en_ ec_; subst ea_; subst ec_; clear en_) | ((with_reducible refine gate_callee (f := 51) rfl ?_); refine goesL_ (some 64) rfl rfl Try.func51 (by kernel_rfl) rfl #[.int .i64 (wrap64 (0 + (rd (rd_L1 x7_3 x9_2) (ji62)))), .int .i64 1000000000000001] rfl (by (try simp only [List.map_toArray, List.map_cons, List.map_nil]); first | done | (simp only [Int.zero_add]; done) | (simp only [Int.zero_add]; rfl) | (simp only [Int.zero_add, hji32, hji40]; rfl) | (simp only [Int.zero_add, hji32]; rfl) | (simp only [hji62]; rfl) | rfl | (simp only [List.length_drop, List.length_take]; rfl)) ?_; (with_reducible refine (spec_l1Least.calls (wrap64 (0 + (rd (rd_L1 x7_3 x9_2) (ji62)))) 1000000000000001 t132 _ A65.out).mono ?_); rintro e w' ⟨rfl, ⟨nd, rfl⟩⟩; refine ⟨_, rfl, ?_⟩; (try (rw [drewN_self w70]; generalize hq_ : World.drewN w70 _ = w70; have nW_ : Aside0 (RowAt 52 w70 (.slice (some ad109) 0 0) (x9_2 : Int).toNat (.slice (some ad130) (rd_L1 x7_2 x9_2).length c109_0)) := ⟨by rw [← hq_]; exact (RowAt.drewN HW.out _)⟩; have nX_ : Aside0 (w70.cell? (ad109.add (x9_2).toNat) = some (.slice (some ad130) (rd_L1 x7_3 x9_2).length c109_0)) := ⟨by rw [← hq_]; exact HX131_0.out⟩; have n0_ : Aside0 (Kd.R (Kd.int .i64) 3 w70 w.heap.size (fun k_ => some k_ ≠ (.slice (some ad109) x7_3.length co17 : Value).ownBlock) (.slice (some ad130) (rd_L1 x7_3 x9_2).length c109_0) (rd_L1 x7_3 x9_2)) := ⟨by rw [← hq_]; exact (by (with_reducible repeat (first | apply Kd.R_alloc | apply Kd.R_drewN | apply Kd.R_drew)); exact Kd.R_mono HL129_0.out (fun _ hk => hk.2))⟩; have n1_ : Aside0 (Kd.R (Kd.int .i64) 3 w70 w.heap.size (fun k_ => some k_ ≠ (.slice (some ad109) x7_3.length co17 : Value).ownBlock) (.slice (some ad130) (rd_L1 x7_3 x9_2).length c109_0) (rd_L1 x7_3 x9_2)) := ⟨by rw [← hq_]; exact (by (with_reducible repeat (first | apply Kd.R_alloc | apply Kd.R_drewN | apply Kd.R_drew)); exact Kd.R_mono HL131_0.out (fun _ hk => hk.2))⟩; have n2_ : Aside0 (Kd.S (Kd.slice 3 (Kd.int .i64)) 52 w70 w.heap.size (fun _ => True) (.slice (some ad109) x7_3.length co17) x7_3) := ⟨by rw [← hq_]; exact (by (with_reducible repeat (first | apply Kd.S_alloc | apply Kd.S_drewN | apply Kd.S_drew)); exact HO_7.out)⟩; have n3_ : Aside0 (w70.heap[gb102]? = some (.cells #[.int .i64 a0_0, .int .i64 a0_1] 31 (0, 0))) := ⟨by rw [← hq_]; exact (by (with_reducible repeat (first | refine blk_drewN ?_ _ | refine blk_drew ?_ | refine blk_alloc ?_ _)); exact BK102.out)⟩; have n4_ : Aside0 (Below w.heap.size w w70) := ⟨by rw [← hq_]; exact (by repeat (first | (with_reducible first | exact HB.out | apply below_alloc | apply pw_below_drewN | apply below_drew1 | refine below_set ?_ GE102.out) | exact HB.out))⟩; have n5_ : Aside0 (Kd.C (Kd.int .i64) w70 (some ad130) (rd_L1 x7_3 x9_2).length (rd_L1 x7_3 x9_2)) := ⟨by rw [← hq_]; exact (by repeat (first | (with_reducible exact HR129_0.out) | (with_reducible refine Kd.C_alloc ?_ _) | (with_reducible refine Kd.C_drewN ?_ _) | (with_reducible refine Kd.C_drew ?_) | exact HR129_0.out))⟩; have n6_ : Aside0 (Kd.C (Kd.int .i64) w70 (some ad130) (rd_L1 x7_3 x9_2).length (rd_L1 x7_3 x9_2)) := ⟨by rw [← hq_]; exact (by repeat (first | (with_reducible exact HR131_0.out) | (with_reducible refine Kd.C_alloc ?_ _) | (with_reducible refine Kd.C_drewN ?_ _) | (with_reducible refine Kd.C_drew ?_) | exact HR131_0.out))⟩; clear HL129_0 HL131_0 HO_7 BK102 HB HW HR129_0 HR131_0 hq_; clear HX131_0; have HX131_0 := nX_; have HW := nW_; have HL129_0 := n0_; have HL131_0 := n1_; have HO_7 := n2_; have BK102 := n3_; have HB := n4_; have HR129_0 := n5_; have HR131_0 := n6_; clear n0_ n1_ n2_ n3_ n4_ n5_ n6_ nW_ nX_)); have p68 : 0 ≤ (x11_3 : Int) := of_decide_eq_true (by first | (with_reducible assumption) | assumption); have q68 : (x11_3 : Int) < (((rd_L1 x7_3 x9_2).length : Int) : Int) := of_decide_eq_true (by first | (with_reducible assumption) | assumption); obtain ⟨go68, co68, eo68, gb68, gl68, cl68, HG68⟩ := Kd.R_form HL131_0.out (by omega); (first | cases eo68 | (injection eo68 with ea_ en_ ec_; (first | subst ea_ | (injection ea_ with ea_; subst ea_)); subst ec_; clear en_)); have GB68 := Aside0.mk gb68; have GG68 := Aside0.mk HG68; clear gb68 gl68 HG68; (first | simp only [add_plain] at hx130_0 | skip); obtain ⟨hx68_0, hf68_0⟩ := Kd.R_celln 0 HL131_0.out (x11_3 : Int) p68 q68; replace p68 := eq_true p68; replace q68 := eq_true q68; have q68y : ((x11_3 : Int) < ((rd_L1 x7_2 x9_2).length : Int)) = True := (by rw [HN.out]; exact q68); have hq71 : (x9_2 : Int) < (x7_3.length : Int) := (by have h_ : (x9_2 : Int) < ((x7_3.length : Int) : Int) := of_decide_eq_true (by first | (with_reducible assumption) | assumption); first | exact h_ | (have e_ := (Kd.S_reads' HO_7.out).1; omega) | simpa only [List.length_set, List.length_set] using h_); obtain ⟨oki71, ce71, hcl71, hM71, hcc71, hok71, hbk71⟩ := Kd.S_borrow HO_7.out [] (x9_2 : Int) (of_decide_eq_true (by first | (with_reducible assumption) | assumption)) hq71; obtain ⟨ve71_0, rfl, ge71_0⟩ := hM71; have hv71 := hcc71 0 _ rfl; rw [Nat.add_zero, show ((Kd.slice 3 (Kd.int .i64))).sz = 1 from rfl, Nat.mul_one] at hv71; replace hv71 := Option.some.inj (hv71.symm.trans HX131_0.out); subst hv71; clear hcc71 hcl71; replace ge71_0 := (show Kd.R (Kd.int .i64) 3 _ _ _ _ (rd_L1 x7_3 x9_2) from ge71_0); have HP71 := Kd.R_putg ge71_0 (x11_3 : Int) t132) | ((with_reducible refine gate_store (t := 3) (p := 65) rfl ?_); refine store_event (t := 3) (p := 65) (v := ?vo_w72) (w1 := (w70.setCell ⟨go68, (x11_3 : Int).toNat, none⟩ (.int .i64 t132))) ?hg ?ho ?hn ?hr ?_; (case ho => rfl); (case hg => rfl); (case hn => rfl); (case hr => first | (go_simp; done) | (go_simp; rfl)); intro w72 hw; have hg : w70.grownBy w72 (some go68) := (by rw [hw]; exact HP71.2); have hz_ : Kd.R (Kd.int .i64) 3 w72 w.heap.size oki71 (.slice (some ⟨go68, 0, none⟩) (rd_L1 x7_3 x9_2).length c109_0) y133 := (by rw [hw, Ny133.out]; exact HP71.1); have hp_ : Kd.S (Kd.slice 3 (Kd.int .i64)) 52 w72 w.heap.size (fun _ => True) (.slice (some ad109) x7_3.length co17) y135 := (by rw [Ny135.out]; exact hbk71 hg (fun k_ e_ => by injection e_ with e_; subst e_; exact ge71_0.1 _ rfl) (Kd.M_row hz_)); have hm_ := Kd.R_mono hz_ hok71; clear HP71 hbk71; have nW_ := Aside0.mk (RowAt.grown HW.out hg ⟨_, GG68.out⟩ (by decide : (52 : Nat) ≠ 3)); clear HW; have HW := nW_; clear nW_; have n0_ := Aside0.mk (hp_); have n1_ := Aside0.mk (blk_grown (g := gb102) (o := .cells #[.int .i64 a0_0, .int .i64 a0_1] 31 (0, 0)) (by (with_reducible repeat (first | refine blk_drewN ?_ _ | refine blk_drew ?_ | refine blk_alloc ?_ _)); exact BK102.out) hg (Kd.R_ne HL131_0.out BK102.out (by decide))); have n2_ := Aside0.mk ((by rw [hw]; exact below_set (HB.out) GB68.out : Below w.heap.size w w72)); have n3_ := Aside0.mk (hm_); have n4_ := Aside0.mk ((Kd.R_reads' hm_).2.1); clear HO_7; clear BK102; clear HB; clear HL129_0; clear HL131_0; have HO_7 := n0_; have BK102 := n1_; have HB := n2_; have HL144 := n3_; have HC134 := n4_; clear n0_ n1_ n2_ n3_ n4_; clear hg hw hp_ hz_ hm_ hok71))
                                                (try simp only [← hl7_3])
                                                go_roundg kj18
                                                case measure => have := HK1.out; have := HK2.out; have := HK3.out; have := HJ18.out; omega
                                                case rel => exact ⟨(y135), (wrap64 (x11_3 - 1)), (by first | rfl | (simp; done) | (simp [*]; done)), H', ⟨by have := HK1.out; have := HK2.out; have := HK3.out; have := HJ18.out; omega⟩, ⟨by (with_reducible repeat (first | refine RowAt.drewN ?_ _ | refine RowAt.drew ?_ | refine RowAt.alloc ?_ _)); exact HW.out⟩, ⟨by (try simp only [hl7_3]); (with_reducible repeat (first | apply Kd.S_alloc | apply Kd.S_drewN | apply Kd.S_drew)); exact HO_7.out⟩, ⟨by (try simp only [hl7_3]); (with_reducible repeat (first | refine blk_drewN ?_ _ | refine blk_drew ?_ | refine blk_alloc ?_ _)); exact BK102.out⟩, ⟨by repeat (first | (with_reducible first | exact HB.out | apply below_alloc | apply pw_below_drewN | apply below_drew1 | refine below_set ?_ GE102.out) | exact HB.out)⟩⟩
                                              · rw [if_neg c67] at H
                                                exact absurd H (by simp)
                                            · rw [if_neg c66] at H
                                              exact absurd H (by simp)
                                          · rw [if_neg c64] at H
                                            exact absurd H (by simp)
                                        · rw [if_neg c63] at H
                                          exact absurd H (by simp)
                                      · rw [if_neg c61] at H
                                        exact absurd H (by simp)
                                    · rw [if_neg c60] at H
                                      exact absurd H (by simp)
                                  · rw [if_neg c59] at H
                                    have c59b0 : decide (x11_3 < a2) = false := decide_eq_false c59
                                    clear c59
                                    by_cases c73 : 0 ≤ x9_2
                                    · rw [if_pos c73] at H
                                      have c73b0 : decide (0 ≤ x9_2) = true := decide_eq_true c73
                                      clear c73
                                      by_cases c74 : x9_2 < (x7_3.length : Int)
                                      · rw [if_pos c74] at H
                                        have c74b0 : decide (x9_2 < (x7_3.length : Int)) = true := decide_eq_true c74
                                        clear c74
                                        replace H := Option.bind_eq_some_iff.mp H
                                        obtain ⟨t137, A750, H⟩ := H
                                        replace H : (if 0 ≤ x11_3 then (if x11_3 < ((rd_L1 x7_3 x9_2).length : Int) then (spec_raBack.l2 kj18 a1 a2 (x7_3.set (x9_2 : Int).toNat ((rd_L1 x7_3 x9_2).set (x11_3 : Int).toNat t137)) x9_2 (wrap64 (x11_3 - 1)) a0_0 a0_1) else (none)) else (none)) = some r := H
                                        have A75 := Aside0.mk A750
                                        clear A750
                                        by_cases c76 : 0 ≤ x11_3
                                        · rw [if_pos c76] at H
                                          have c76b0 : decide (0 ≤ x11_3) = true := decide_eq_true c76
                                          clear c76
                                          by_cases c77 : x11_3 < ((rd_L1 x7_3 x9_2).length : Int)
                                          · rw [if_pos c77] at H
                                            have c77b0 : decide (x11_3 < ((rd_L1 x7_3 x9_2).length : Int)) = true := decide_eq_true c77
                                            clear c77
                                            obtain ⟨y138, hy138⟩ : ∃ y_ : List Int, y_ = ((rd_L1 x7_3 x9_2).set (x11_3 : Int).toNat t137) := ⟨_, rfl⟩
                                            replace H : (spec_raBack.l2 kj18 a1 a2 (x7_3.set (x9_2 : Int).toNat y138) x9_2 (wrap64 (x11_3 - 1)) a0_0 a0_1) = some r := by first | (rw [hy138]; with_reducible exact H) | (have H2_ := (Option.bind_some _ _).symm.trans H; rw [hy138]; with_reducible exact H2_) | (have H2_ := (Option.bind_some _ _).symm.trans H; with_reducible exact H2_) | with_reducible exact H | (rw [hy138]; exact H) | exact H
                                            have Ny138 := Aside0.mk hy138
                                            clear hy138
                                            obtain ⟨y140, hy140⟩ : ∃ y_ : List (List Int), y_ = (x7_3.set (x9_2 : Int).toNat y138) := ⟨_, rfl⟩
                                            replace H : (spec_raBack.l2 kj18 a1 a2 y140 x9_2 (wrap64 (x11_3 - 1)) a0_0 a0_1) = some r := by first | (rw [hy140]; with_reducible exact H) | (have H2_ := (Option.bind_some _ _).symm.trans H; rw [hy140]; with_reducible exact H2_) | (have H2_ := (Option.bind_some _ _).symm.trans H; with_reducible exact H2_) | with_reducible exact H | (rw [hy140]; exact H) | exact H
                                            have Ny140 := Aside0.mk hy140
                                            clear hy140
                                            have H' := Aside0.mk H
                                            clear H
                                            have hcz79_0 : wc.cell? ⟨gb102, 0, none⟩ = some (.int .i64 a0_0) := (blk_cell BK102.out 0).trans rfl
                                            have hcz79_1 : wc.cell? ⟨gb102, 1, none⟩ = some (.int .i64 a0_1) := (blk_cell BK102.out 1).trans rfl
                                            have hfz79_0 := blk_frozen BK102.out 0
                                            have hfz79_1 := blk_frozen BK102.out 1
                                            go_wp2_with (first | ((with_reducible refine gate_callee (f := 37) rfl ?_); refine goesL_ (some 82) rfl rfl Try.func37 (by kernel_rfl) rfl #[.agg #[.int .i64 a0_0, .int .i64 a0_1], .int .i64 x9_2, .int .i64 x11_3] rfl (by (try simp only [List.map_toArray, List.map_cons, List.map_nil]); first | done | rfl | (simp only [List.length_drop, List.length_take]; rfl)) ?_; (with_reducible refine (spec_raWon.calls kj18 a0_0 a0_1 x9_2 x11_3 t114 _ A29.out).mono ?_); rintro e w80 ⟨rfl, hb⟩; refine ⟨_, rfl, ?_⟩; have nW_ := Aside0.mk (RowAt.below (by (with_reducible repeat (first | refine RowAt.drewN ?_ _ | refine RowAt.drew ?_ | refine RowAt.alloc ?_ _)); exact HW.out) hb); have n0_ := Aside0.mk (Kd.S_below (by (with_reducible repeat (first | apply Kd.S_alloc | apply Kd.S_drewN | apply Kd.S_drew)); exact HO_7.out) hb); have n1_ := Aside0.mk (blk_below (g := gb102) (o := .cells #[.int .i64 a0_0, .int .i64 a0_1] 31 (0, 0)) (by (with_reducible repeat (first | refine blk_drewN ?_ _ | refine blk_drew ?_ | refine blk_alloc ?_ _)); exact BK102.out) hb); have n2_ := Aside0.mk (below_step (by repeat (first | (with_reducible first | exact HB.out | apply below_alloc | apply pw_below_drewN | apply below_drew1 | refine below_set ?_ GE102.out) | exact HB.out)) hb); clear HO_7; clear BK102; clear HB; clear HW; have HO_7 := n0_; have BK102 := n1_; have HB := n2_; have HW := nW_; clear n0_ n1_ n2_ nW_; (try clear hb); (try clear hb2); (try clear hk); (try clear hi); have p136 : 0 ≤ (x9_2 : Int) := of_decide_eq_true (by first | (with_reducible assumption) | assumption); have q136 : x9_2 < (x7_3.length : Int) := of_decide_eq_true (by first | (with_reducible assumption) | assumption); obtain ⟨ad136, A136_0, c136_0, e136, hx136_0, hl136_0, hi136_0⟩ := at_L1 (Kd.S_reads' HO_7.out).2.2 x9_2 p136 q136; obtain rfl : ad109 = ad136 := (by injection e136); obtain ⟨ce136, hce136, hMe136, hcc136⟩ := Kd.S_get HO_7.out [] x9_2 p136 (by first | exact q136 | exact of_decide_eq_true (by first | (with_reducible assumption) | assumption) | (have e_ := (Kd.S_reads' HO_7.out).1; omega)); obtain ⟨ve136_0, rfl, ge136_0⟩ := hMe136; have hv136_0 := hcc136 0 _ rfl; rw [Nat.add_zero, show ((Kd.slice 3 (Kd.int .i64))).sz = 1 from rfl, Nat.mul_one] at hv136_0; replace hv136_0 := Option.some.inj (hv136_0.symm.trans hx136_0); rw [hv136_0] at ge136_0; have HL136_0 := Aside0.mk (show Kd.R (Kd.int .i64) 3 _ _ _ _ (rd_L1 x7_3 x9_2) from ge136_0); clear hv136_0 ge136_0; have HX136_0 := Aside0.mk hx136_0; clear hcc136 hce136; have HR136_0 := Aside0.mk hi136_0; have HC136_0 := Aside0.mk hl136_0; clear hi136_0 hl136_0; have hs_ := RowAt.same2 HW.out HX136_0.out; injection hs_ with ha_ hn_ hc_; subst ha_; subst hc_; have HN := Aside0.mk hn_; clear hn_; replace p136 := eq_true p136; replace q136 := eq_true q136) | ((with_reducible refine gate_callee (f := 51) rfl ?_); refine goesL_ (some 64) rfl rfl Try.func51 (by kernel_rfl) rfl #[.int .i64 0, .int .i64 1000000000000001] rfl (by (try simp only [List.map_toArray, List.map_cons, List.map_nil]); first | done | rfl | (simp only [List.length_drop, List.length_take]; rfl)) ?_; (with_reducible refine (spec_l1Least.calls 0 1000000000000001 t137 _ A75.out).mono ?_); rintro e w' ⟨rfl, ⟨nd, rfl⟩⟩; refine ⟨_, rfl, ?_⟩; (try (rw [drewN_self w80]; generalize hq_ : World.drewN w80 _ = w80; have nW_ : Aside0 (RowAt 52 w80 (.slice (some ad109) 0 0) (x9_2 : Int).toNat (.slice A109_0 (rd_L1 x7_2 x9_2).length c109_0)) := ⟨by rw [← hq_]; exact (RowAt.drewN HW.out _)⟩; have nX_ : Aside0 (w80.cell? (ad109.add (x9_2).toNat) = some (.slice A109_0 (rd_L1 x7_3 x9_2).length c109_0)) := ⟨by rw [← hq_]; exact HX136_0.out⟩; have n0_ : Aside0 (Kd.R (Kd.int .i64) 3 w80 w.heap.size (fun k_ => some k_ ≠ (.slice (some ad109) x7_3.length co17 : Value).ownBlock) (.slice A109_0 (rd_L1 x7_3 x9_2).length c109_0) (rd_L1 x7_3 x9_2)) := ⟨by rw [← hq_]; exact (by (with_reducible repeat (first | apply Kd.R_alloc | apply Kd.R_drewN | apply Kd.R_drew)); exact Kd.R_mono HL136_0.out (fun _ hk => hk.2))⟩; have n1_ : Aside0 (Kd.S (Kd.slice 3 (Kd.int .i64)) 52 w80 w.heap.size (fun _ => True) (.slice (some ad109) x7_3.length co17) x7_3) := ⟨by rw [← hq_]; exact (by (with_reducible repeat (first | apply Kd.S_alloc | apply Kd.S_drewN | apply Kd.S_drew)); exact HO_7.out)⟩; have n2_ : Aside0 (w80.heap[gb102]? = some (.cells #[.int .i64 a0_0, .int .i64 a0_1] 31 (0, 0))) := ⟨by rw [← hq_]; exact (by (with_reducible repeat (first | refine blk_drewN ?_ _ | refine blk_drew ?_ | refine blk_alloc ?_ _)); exact BK102.out)⟩; have n3_ : Aside0 (Below w.heap.size w w80) := ⟨by rw [← hq_]; exact (by repeat (first | (with_reducible first | exact HB.out | apply below_alloc | apply pw_below_drewN | apply below_drew1 | refine below_set ?_ GE102.out) | exact HB.out))⟩; have n4_ : Aside0 (Kd.C (Kd.int .i64) w80 A109_0 (rd_L1 x7_3 x9_2).length (rd_L1 x7_3 x9_2)) := ⟨by rw [← hq_]; exact (by repeat (first | (with_reducible exact HR136_0.out) | (with_reducible refine Kd.C_alloc ?_ _) | (with_reducible refine Kd.C_drewN ?_ _) | (with_reducible refine Kd.C_drew ?_) | exact HR136_0.out))⟩; clear HL136_0 HO_7 BK102 HB HW HR136_0 hq_; clear HX136_0; have HX136_0 := nX_; have HW := nW_; have HL136_0 := n0_; have HO_7 := n1_; have BK102 := n2_; have HB := n3_; have HR136_0 := n4_; clear n0_ n1_ n2_ n3_ n4_ nW_ nX_)); have p78 : 0 ≤ (x11_3 : Int) := of_decide_eq_true (by first | (with_reducible assumption) | assumption); have q78 : (x11_3 : Int) < (((rd_L1 x7_3 x9_2).length : Int) : Int) := of_decide_eq_true (by first | (with_reducible assumption) | assumption); obtain ⟨go78, co78, eo78, gb78, gl78, cl78, HG78⟩ := Kd.R_form HL136_0.out (by omega); (first | cases eo78 | (injection eo78 with ea_ en_ ec_; (first | subst ea_ | (injection ea_ with ea_; subst ea_)); subst ec_; clear en_)); have GB78 := Aside0.mk gb78; have GG78 := Aside0.mk HG78; clear gb78 gl78 HG78; obtain ⟨hx78_0, hf78_0⟩ := Kd.R_celln 0 HL136_0.out (x11_3 : Int) p78 q78; replace p78 := eq_true p78; replace q78 := eq_true q78; have q78y : ((x11_3 : Int) < ((rd_L1 x7_2 x9_2).length : Int)) = True := (by rw [HN.out]; exact q78); have hq81 : (x9_2 : Int) < (x7_3.length : Int) := (by have h_ : (x9_2 : Int) < ((x7_3.length : Int) : Int) := of_decide_eq_true (by first | (with_reducible assumption) | assumption); first | exact h_ | (have e_ := (Kd.S_reads' HO_7.out).1; omega) | simpa only [List.length_set, List.length_set] using h_); obtain ⟨oki81, ce81, hcl81, hM81, hcc81, hok81, hbk81⟩ := Kd.S_borrow HO_7.out [] (x9_2 : Int) (of_decide_eq_true (by first | (with_reducible assumption) | assumption)) hq81; obtain ⟨ve81_0, rfl, ge81_0⟩ := hM81; have hv81 := hcc81 0 _ rfl; rw [Nat.add_zero, show ((Kd.slice 3 (Kd.int .i64))).sz = 1 from rfl, Nat.mul_one] at hv81; replace hv81 := Option.some.inj (hv81.symm.trans HX136_0.out); subst hv81; clear hcc81 hcl81; replace ge81_0 := (show Kd.R (Kd.int .i64) 3 _ _ _ _ (rd_L1 x7_3 x9_2) from ge81_0); have HP81 := Kd.R_putg ge81_0 (x11_3 : Int) t137) | ((with_reducible refine gate_store (t := 3) (p := 65) rfl ?_); refine store_event (t := 3) (p := 65) (v := ?vo_w82) (w1 := (w80.setCell ⟨go78, (x11_3 : Int).toNat, none⟩ (.int .i64 t137))) ?hg ?ho ?hn ?hr ?_; (case ho => rfl); (case hg => rfl); (case hn => rfl); (case hr => first | (go_simp; done) | (go_simp; rfl)); intro w82 hw; have hg : w80.grownBy w82 (some go78) := (by rw [hw]; exact HP81.2); have hz_ : Kd.R (Kd.int .i64) 3 w82 w.heap.size oki81 (.slice (some ⟨go78, 0, none⟩) (rd_L1 x7_3 x9_2).length c109_0) y138 := (by rw [hw, Ny138.out]; exact HP81.1); have hp_ : Kd.S (Kd.slice 3 (Kd.int .i64)) 52 w82 w.heap.size (fun _ => True) (.slice (some ad109) x7_3.length co17) y140 := (by rw [Ny140.out]; exact hbk81 hg (fun k_ e_ => by injection e_ with e_; subst e_; exact ge81_0.1 _ rfl) (Kd.M_row hz_)); have hm_ := Kd.R_mono hz_ hok81; clear HP81 hbk81; have nW_ := Aside0.mk (RowAt.grown HW.out hg ⟨_, GG78.out⟩ (by decide : (52 : Nat) ≠ 3)); clear HW; have HW := nW_; clear nW_; have n0_ := Aside0.mk (hp_); have n1_ := Aside0.mk (blk_grown (g := gb102) (o := .cells #[.int .i64 a0_0, .int .i64 a0_1] 31 (0, 0)) (by (with_reducible repeat (first | refine blk_drewN ?_ _ | refine blk_drew ?_ | refine blk_alloc ?_ _)); exact BK102.out) hg (Kd.R_ne HL136_0.out BK102.out (by decide))); have n2_ := Aside0.mk ((by rw [hw]; exact below_set (HB.out) GB78.out : Below w.heap.size w w82)); have n3_ := Aside0.mk (hm_); have n4_ := Aside0.mk ((Kd.R_reads' hm_).2.1); clear HO_7; clear BK102; clear HB; clear HL136_0; have HO_7 := n0_; have BK102 := n1_; have HB := n2_; have HL145 := n3_; have HC139 := n4_; clear n0_ n1_ n2_ n3_ n4_; clear hg hw hp_ hz_ hm_ hok81))
                                            (try simp only [← hl7_3])
                                            go_roundg kj18
                                            case measure => have := HK1.out; have := HK2.out; have := HK3.out; have := HJ18.out; omega
                                            case rel => exact ⟨(y140), (wrap64 (x11_3 - 1)), (by first | rfl | (simp; done) | (simp [*]; done)), H', ⟨by have := HK1.out; have := HK2.out; have := HK3.out; have := HJ18.out; omega⟩, ⟨by (with_reducible repeat (first | refine RowAt.drewN ?_ _ | refine RowAt.drew ?_ | refine RowAt.alloc ?_ _)); exact HW.out⟩, ⟨by (try simp only [hl7_3]); (with_reducible repeat (first | apply Kd.S_alloc | apply Kd.S_drewN | apply Kd.S_drew)); exact HO_7.out⟩, ⟨by (try simp only [hl7_3]); (with_reducible repeat (first | refine blk_drewN ?_ _ | refine blk_drew ?_ | refine blk_alloc ?_ _)); exact BK102.out⟩, ⟨by repeat (first | (with_reducible first | exact HB.out | apply below_alloc | apply pw_below_drewN | apply below_drew1 | refine below_set ?_ GE102.out) | exact HB.out)⟩⟩
                                          · rw [if_neg c77] at H
                                            exact absurd H (by simp)
                                        · rw [if_neg c76] at H
                                          exact absurd H (by simp)
                                      · rw [if_neg c74] at H
                                        exact absurd H (by simp)
                                    · rw [if_neg c73] at H
                                      exact absurd H (by simp)
                              · rw [if_neg c30] at H
                                have c30b0 : (t114 == 0) = false := beq_eq_false_iff_ne.mpr c30
                                have c30b1 : (t114 != 0) = true := bne_iff_ne.mpr c30
                                have H' := Aside0.mk H
                                clear H
                                have hcz83_0 : wc.cell? ⟨gb102, 0, none⟩ = some (.int .i64 a0_0) := (blk_cell BK102.out 0).trans rfl
                                have hcz83_1 : wc.cell? ⟨gb102, 1, none⟩ = some (.int .i64 a0_1) := (blk_cell BK102.out 1).trans rfl
                                have hfz83_0 := blk_frozen BK102.out 0
                                have hfz83_1 := blk_frozen BK102.out 1
                                go_wp2_with (first | ((with_reducible refine gate_callee (f := 37) rfl ?_); refine goesL_ (some 82) rfl rfl Try.func37 (by kernel_rfl) rfl #[.agg #[.int .i64 a0_0, .int .i64 a0_1], .int .i64 x9_2, .int .i64 x11_3] rfl (by (try simp only [List.map_toArray, List.map_cons, List.map_nil]); first | done | rfl | (simp only [List.length_drop, List.length_take]; rfl)) ?_; (with_reducible refine (spec_raWon.calls kj18 a0_0 a0_1 x9_2 x11_3 t114 _ A29.out).mono ?_); rintro e w84 ⟨rfl, hb⟩; refine ⟨_, rfl, ?_⟩; have nW_ := Aside0.mk (RowAt.below (by (with_reducible repeat (first | refine RowAt.drewN ?_ _ | refine RowAt.drew ?_ | refine RowAt.alloc ?_ _)); exact HW.out) hb); have n0_ := Aside0.mk (Kd.S_below (by (with_reducible repeat (first | apply Kd.S_alloc | apply Kd.S_drewN | apply Kd.S_drew)); exact HO_7.out) hb); have n1_ := Aside0.mk (blk_below (g := gb102) (o := .cells #[.int .i64 a0_0, .int .i64 a0_1] 31 (0, 0)) (by (with_reducible repeat (first | refine blk_drewN ?_ _ | refine blk_drew ?_ | refine blk_alloc ?_ _)); exact BK102.out) hb); have n2_ := Aside0.mk (below_step (by repeat (first | (with_reducible first | exact HB.out | apply below_alloc | apply pw_below_drewN | apply below_drew1 | refine below_set ?_ GE102.out) | exact HB.out)) hb); clear HO_7; clear BK102; clear HB; clear HW; have HO_7 := n0_; have BK102 := n1_; have HB := n2_; have HW := nW_; clear n0_ n1_ n2_ nW_; (try clear hb); (try clear hb2); (try clear hk); (try clear hi)))
                                (try simp only [← hl7_3])
                                go_roundg kj18
                                case measure => have := HK1.out; have := HK2.out; have := HK3.out; have := HJ18.out; omega
                                case rel => exact ⟨(x7_3), (wrap64 (x11_3 - 1)), (by first | rfl | (simp; done) | (simp [*]; done)), H', ⟨by have := HK1.out; have := HK2.out; have := HK3.out; have := HJ18.out; omega⟩, ⟨by (with_reducible repeat (first | refine RowAt.drewN ?_ _ | refine RowAt.drew ?_ | refine RowAt.alloc ?_ _)); exact HW.out⟩, ⟨by (try simp only [hl7_3]); (with_reducible repeat (first | apply Kd.S_alloc | apply Kd.S_drewN | apply Kd.S_drew)); exact HO_7.out⟩, ⟨by (try simp only [hl7_3]); (with_reducible repeat (first | refine blk_drewN ?_ _ | refine blk_drew ?_ | refine blk_alloc ?_ _)); exact BK102.out⟩, ⟨by repeat (first | (with_reducible first | exact HB.out | apply below_alloc | apply pw_below_drewN | apply below_drew1 | refine below_set ?_ GE102.out) | exact HB.out)⟩⟩
                      · rw [if_neg c18] at H
                        have c18b0 : decide (0 ≤ x11_3) = false := decide_eq_false c18
                        clear c18
                        have H' := Aside0.mk H
                        clear H
                        go_wp2
                        (try simp only [← hl7_3])
                        go_roundg k3
                        case measure => have := HK1.out; have := HK2.out; have := HK3.out; omega
                        case rel => exact ⟨(x7_3), (wrap64 (x9_2 - 1)), (by first | rfl | (simp; done) | (simp [*]; done)), H', ⟨by have := HK1.out; have := HK2.out; have := HK3.out; omega⟩, ⟨by (try simp only [hl7_3]); (with_reducible repeat (first | apply Kd.S_alloc | apply Kd.S_drewN | apply Kd.S_drew)); exact HO_7.out⟩, ⟨by (try simp only [hl7_3]); (with_reducible repeat (first | refine blk_drewN ?_ _ | refine blk_drew ?_ | refine blk_alloc ?_ _)); exact BK102.out⟩, ⟨by repeat (first | (with_reducible first | exact HB.out | apply below_alloc | apply pw_below_drewN | apply below_drew1 | refine below_set ?_ GE102.out) | exact HB.out)⟩⟩
                · rw [if_neg c16] at H
                  exact absurd H (by simp)
              · rw [if_neg c15] at H
                exact absurd H (by simp)
            · rw [if_neg c14] at H
              have c14b0 : decide (0 ≤ x9_2) = false := decide_eq_false c14
              clear c14
              obtain rfl := Option.some.inj H
              go_wp2
              go_ret
              exact ⟨_, by first | rfl | (simp [errW_none, errW_some] <;> rfl) | (simp [*, errW_none, errW_some] <;> rfl), by (with_reducible repeat (first | apply Kd.S_alloc | apply Kd.S_drewN | apply Kd.S_drew)); exact HO_7.out, by repeat (first | (with_reducible first | exact HB.out | apply below_alloc | apply pw_below_drewN | apply below_drew1 | refine below_set ?_ GE102.out) | exact HB.out)⟩

end Go.Proofs.Ytjidebaganmeoaa.QBack
