-- Written by a program of this session (wip/tools/gprint.sh) out of the translation, with some contracts given by hand.
import Derived.Test.YtjidebaganmeoaaQWaysx0
import Derived.Test.YtjidebaganmeoaaQWaysx1
import Derived.Test.YtjidebaganmeoaaGRow
namespace Go.Proofs.Ytjidebaganmeoaa.QWays
open Go.RowKit Go.Proofs.YtjidebaganmeoaaW.PrintWords Go.Proofs.YtjidebaganmeoaaW.PrintLast Go.Proofs.YtjidebaganmeoaaW.PrintMore Go.Proofs.Ytjidebaganmeoaa.GRow
attribute [local go_sem] max2_int min2_int max_two min_two max_three min_three max_four min_four   -- for this text's walks alone
set_option linter.unusedVariables false
set_option linter.unusedSimpArgs false

/-! ### spec_raWays: function 48 -/
mutual
def spec_raWays.l0 : Nat → Int → Int → List (List Int) → Int → Int → Int → Option ((List (List Int)))
  | 0, _, _, _, _, _, _ => none
  | k + 1, x1, x2, x7, x8, x103000, x103001 => if x8 ≤ x1 then (if 0 ≤ (wrap64 (x2 + 1)) then (if (wrap64 (x2 + 1) : Int).toNat ≤ 35184372088832 then (if x7.length < 5864062014805 then (spec_raWays.l1 k x1 x2 (x7 ++ [(List.replicate (wrap64 (x2 + 1) : Int).toNat 0)]) x8 (wrap64 (x2 + 1)) 0 x103000 x103001) else (none)) else (none)) else (none)) else (some x7)
def spec_raWays.l1 : Nat → Int → Int → List (List Int) → Int → Int → Int → Int → Int → Option ((List (List Int)))
  | 0, _, _, _, _, _, _, _, _ => none
  | k + 1, x1, x2, x7, x8, x25, x26, x103000, x103001 => if x26 < x25 then (if x8 = 0 then (spec_raWays.j2 k x1 x2 x7 x8 x26 0 x25 x26 (x26 == 0) x103000 x103001) else (spec_raWays.j2 k x1 x2 x7 x8 x26 0 x25 x26 false x103000 x103001)) else (spec_raWays.l0 k x1 x2 x7 (wrap64 (x8 + 1)) x103000 x103001)
def spec_raWays.j2 : Nat → Int → Int → List (List Int) → Int → Int → Int → Int → Int → Bool → Int → Int → Option ((List (List Int)))
  | 0, _, _, _, _, _, _, _, _, _, _, _ => none
  | k + 1, x1, x2, x7, x8, x10, x11, x25, x26, x34, x103000, x103001 => if x34 = true then (spec_raWays.j3 k x1 x2 x7 x8 x10 1 x25 x26 x103000 x103001) else (spec_raWays.j3 k x1 x2 x7 x8 x10 x11 x25 x26 x103000 x103001)
def spec_raWays.j3 : Nat → Int → Int → List (List Int) → Int → Int → Int → Int → Int → Int → Int → Option ((List (List Int)))
  | 0, _, _, _, _, _, _, _, _, _, _ => none
  | k + 1, x1, x2, x7, x8, x10, x11, x25, x26, x103000, x103001 => if x8 > 0 then ((spec_raWon.f k x103000 x103001 (wrap64 (x8 - 1)) x10).bind fun t109 => (spec_raWays.j4 k x1 x2 x7 x8 x10 x11 x25 x26 (t109 == 0) x103000 x103001)) else (spec_raWays.j4 k x1 x2 x7 x8 x10 x11 x25 x26 false x103000 x103001)
def spec_raWays.j4 : Nat → Int → Int → List (List Int) → Int → Int → Int → Int → Int → Bool → Int → Int → Option ((List (List Int)))
  | 0, _, _, _, _, _, _, _, _, _, _, _ => none
  | k + 1, x1, x2, x7, x8, x10, x11, x25, x26, x44, x103000, x103001 => if x44 = true then (if 0 ≤ (wrap64 (x8 - 1)) then (if (wrap64 (x8 - 1)) < (x7.length : Int) then (if 0 ≤ x10 then (if x10 < ((rd_L1 x7 (wrap64 (x8 - 1))).length : Int) then (spec_raWays.j5 k x1 x2 x7 x8 x10 (wrap64 (x11 + (rd (rd_L1 x7 (wrap64 (x8 - 1))) x10))) x25 x26 x103000 x103001) else (none)) else (none)) else (none)) else (none)) else (spec_raWays.j5 k x1 x2 x7 x8 x10 x11 x25 x26 x103000 x103001)
def spec_raWays.j5 : Nat → Int → Int → List (List Int) → Int → Int → Int → Int → Int → Int → Int → Option ((List (List Int)))
  | 0, _, _, _, _, _, _, _, _, _, _ => none
  | k + 1, x1, x2, x7, x8, x10, x11, x25, x26, x103000, x103001 => if x10 > 0 then ((spec_raWon.f k x103000 x103001 x8 (wrap64 (x10 - 1))).bind fun t112 => (if t112 = 0 then (if 0 ≤ x8 then (if x8 < (x7.length : Int) then (if 0 ≤ (wrap64 (x10 - 1)) then (if (wrap64 (x10 - 1)) < ((rd_L1 x7 x8).length : Int) then ((spec_l1Least.f (wrap64 (x11 + (rd (rd_L1 x7 x8) (wrap64 (x10 - 1))))) 1000000000000001).bind fun t116 => (if 0 ≤ x10 then (if x10 < ((rd_L1 x7 x8).length : Int) then (spec_raWays.l1 k x1 x2 (x7.set (x8 : Int).toNat ((rd_L1 x7 x8).set (x10 : Int).toNat t116)) x8 x25 (wrap64 (x26 + 1)) x103000 x103001) else (none)) else (none))) else (none)) else (none)) else (none)) else (none)) else (if 0 ≤ x8 then (if x8 < (x7.length : Int) then ((spec_l1Least.f x11 1000000000000001).bind fun t121 => (if 0 ≤ x10 then (if x10 < ((rd_L1 x7 x8).length : Int) then (spec_raWays.l1 k x1 x2 (x7.set (x8 : Int).toNat ((rd_L1 x7 x8).set (x10 : Int).toNat t121)) x8 x25 (wrap64 (x26 + 1)) x103000 x103001) else (none)) else (none))) else (none)) else (none)))) else (if 0 ≤ x8 then (if x8 < (x7.length : Int) then ((spec_l1Least.f x11 1000000000000001).bind fun t126 => (if 0 ≤ x10 then (if x10 < ((rd_L1 x7 x8).length : Int) then (spec_raWays.l1 k x1 x2 (x7.set (x8 : Int).toNat ((rd_L1 x7 x8).set (x10 : Int).toNat t126)) x8 x25 (wrap64 (x26 + 1)) x103000 x103001) else (none)) else (none))) else (none)) else (none))
end
def spec_raWays.f (k : Nat) (a0_0 : Int) (a0_1 : Int) (a1 : Int) (a2 : Int) : Option ((List (List Int))) := spec_raWays.l0 k a1 a2 ([] : List (List Int)) 0 a0_0 a0_1
theorem spec_raWays.mono_l : ∀ k, (∀ y0 y1 y2 y3 y4 y5, LeO (spec_raWays.l0 k y0 y1 y2 y3 y4 y5) (spec_raWays.l0 (k + 1) y0 y1 y2 y3 y4 y5)) ∧ (∀ y0 y1 y2 y3 y4 y5 y6 y7, LeO (spec_raWays.l1 k y0 y1 y2 y3 y4 y5 y6 y7) (spec_raWays.l1 (k + 1) y0 y1 y2 y3 y4 y5 y6 y7)) ∧ (∀ y0 y1 y2 y3 y4 y5 y6 y7 y8 y9 y10, LeO (spec_raWays.j2 k y0 y1 y2 y3 y4 y5 y6 y7 y8 y9 y10) (spec_raWays.j2 (k + 1) y0 y1 y2 y3 y4 y5 y6 y7 y8 y9 y10)) ∧ (∀ y0 y1 y2 y3 y4 y5 y6 y7 y8 y9, LeO (spec_raWays.j3 k y0 y1 y2 y3 y4 y5 y6 y7 y8 y9) (spec_raWays.j3 (k + 1) y0 y1 y2 y3 y4 y5 y6 y7 y8 y9)) ∧ (∀ y0 y1 y2 y3 y4 y5 y6 y7 y8 y9 y10, LeO (spec_raWays.j4 k y0 y1 y2 y3 y4 y5 y6 y7 y8 y9 y10) (spec_raWays.j4 (k + 1) y0 y1 y2 y3 y4 y5 y6 y7 y8 y9 y10)) ∧ (∀ y0 y1 y2 y3 y4 y5 y6 y7 y8 y9, LeO (spec_raWays.j5 k y0 y1 y2 y3 y4 y5 y6 y7 y8 y9) (spec_raWays.j5 (k + 1) y0 y1 y2 y3 y4 y5 y6 y7 y8 y9))
  | 0 => ⟨fun _ _ _ _ _ _ r h => by simp [spec_raWays.l0] at h, fun _ _ _ _ _ _ _ _ r h => by simp [spec_raWays.l1] at h, fun _ _ _ _ _ _ _ _ _ _ _ r h => by simp [spec_raWays.j2] at h, fun _ _ _ _ _ _ _ _ _ _ r h => by simp [spec_raWays.j3] at h, fun _ _ _ _ _ _ _ _ _ _ _ r h => by simp [spec_raWays.j4] at h, fun _ _ _ _ _ _ _ _ _ _ r h => by simp [spec_raWays.j5] at h⟩
  | k + 1 => by
    obtain ⟨ih0, ih1, ih2, ih3, ih4, ih5⟩ := spec_raWays.mono_l k
    refine ⟨?_, ?_, ?_, ?_, ?_, ?_⟩
    · intro y0 y1 y2 y3 y4 y5
      unfold spec_raWays.l0
      repeat' first
      | (with_reducible exact ih0 _ _ _ _ _ _)
      | (with_reducible exact ih1 _ _ _ _ _ _ _ _)
      | (with_reducible exact ih2 _ _ _ _ _ _ _ _ _ _ _)
      | (with_reducible exact ih3 _ _ _ _ _ _ _ _ _ _)
      | (with_reducible exact ih4 _ _ _ _ _ _ _ _ _ _ _)
      | (with_reducible exact ih5 _ _ _ _ _ _ _ _ _ _)
      | (with_reducible exact spec_raWon.mono _ _ _ _ _)
      | (with_reducible exact LeO.refl _)
      | (with_reducible exact LeO.none _)
      | (with_reducible refine LeO.ite ?_ ?_)
      | (with_reducible refine LeO.bind ?_ (fun _ => ?_))
      | exact ih0 _ _ _ _ _ _
      | exact ih1 _ _ _ _ _ _ _ _
      | exact ih2 _ _ _ _ _ _ _ _ _ _ _
      | exact ih3 _ _ _ _ _ _ _ _ _ _
      | exact ih4 _ _ _ _ _ _ _ _ _ _ _
      | exact ih5 _ _ _ _ _ _ _ _ _ _
      | exact spec_raWon.mono _ _ _ _ _
      | exact LeO.none _
      | refine LeO.ite ?_ ?_
      | refine LeO.bind ?_ (fun _ => ?_)
    · intro y0 y1 y2 y3 y4 y5 y6 y7
      unfold spec_raWays.l1
      repeat' first
      | (with_reducible exact ih0 _ _ _ _ _ _)
      | (with_reducible exact ih1 _ _ _ _ _ _ _ _)
      | (with_reducible exact ih2 _ _ _ _ _ _ _ _ _ _ _)
      | (with_reducible exact ih3 _ _ _ _ _ _ _ _ _ _)
      | (with_reducible exact ih4 _ _ _ _ _ _ _ _ _ _ _)
      | (with_reducible exact ih5 _ _ _ _ _ _ _ _ _ _)
      | (with_reducible exact spec_raWon.mono _ _ _ _ _)
      | (with_reducible exact LeO.refl _)
      | (with_reducible exact LeO.none _)
      | (with_reducible refine LeO.ite ?_ ?_)
      | (with_reducible refine LeO.bind ?_ (fun _ => ?_))
      | exact ih0 _ _ _ _ _ _
      | exact ih1 _ _ _ _ _ _ _ _
      | exact ih2 _ _ _ _ _ _ _ _ _ _ _
      | exact ih3 _ _ _ _ _ _ _ _ _ _
      | exact ih4 _ _ _ _ _ _ _ _ _ _ _
      | exact ih5 _ _ _ _ _ _ _ _ _ _
      | exact spec_raWon.mono _ _ _ _ _
      | exact LeO.none _
      | refine LeO.ite ?_ ?_
      | refine LeO.bind ?_ (fun _ => ?_)
    · intro y0 y1 y2 y3 y4 y5 y6 y7 y8 y9 y10
      unfold spec_raWays.j2
      repeat' first
      | (with_reducible exact ih0 _ _ _ _ _ _)
      | (with_reducible exact ih1 _ _ _ _ _ _ _ _)
      | (with_reducible exact ih2 _ _ _ _ _ _ _ _ _ _ _)
      | (with_reducible exact ih3 _ _ _ _ _ _ _ _ _ _)
      | (with_reducible exact ih4 _ _ _ _ _ _ _ _ _ _ _)
      | (with_reducible exact ih5 _ _ _ _ _ _ _ _ _ _)
      | (with_reducible exact spec_raWon.mono _ _ _ _ _)
      | (with_reducible exact LeO.refl _)
      | (with_reducible exact LeO.none _)
      | (with_reducible refine LeO.ite ?_ ?_)
      | (with_reducible refine LeO.bind ?_ (fun _ => ?_))
      | exact ih0 _ _ _ _ _ _
      | exact ih1 _ _ _ _ _ _ _ _
      | exact ih2 _ _ _ _ _ _ _ _ _ _ _
      | exact ih3 _ _ _ _ _ _ _ _ _ _
      | exact ih4 _ _ _ _ _ _ _ _ _ _ _
      | exact ih5 _ _ _ _ _ _ _ _ _ _
      | exact spec_raWon.mono _ _ _ _ _
      | exact LeO.none _
      | refine LeO.ite ?_ ?_
      | refine LeO.bind ?_ (fun _ => ?_)
    · intro y0 y1 y2 y3 y4 y5 y6 y7 y8 y9
      unfold spec_raWays.j3
      repeat' first
      | (with_reducible exact ih0 _ _ _ _ _ _)
      | (with_reducible exact ih1 _ _ _ _ _ _ _ _)
      | (with_reducible exact ih2 _ _ _ _ _ _ _ _ _ _ _)
      | (with_reducible exact ih3 _ _ _ _ _ _ _ _ _ _)
      | (with_reducible exact ih4 _ _ _ _ _ _ _ _ _ _ _)
      | (with_reducible exact ih5 _ _ _ _ _ _ _ _ _ _)
      | (with_reducible exact spec_raWon.mono _ _ _ _ _)
      | (with_reducible exact LeO.refl _)
      | (with_reducible exact LeO.none _)
      | (with_reducible refine LeO.ite ?_ ?_)
      | (with_reducible refine LeO.bind ?_ (fun _ => ?_))
      | exact ih0 _ _ _ _ _ _
      | exact ih1 _ _ _ _ _ _ _ _
      | exact ih2 _ _ _ _ _ _ _ _ _ _ _
      | exact ih3 _ _ _ _ _ _ _ _ _ _
      | exact ih4 _ _ _ _ _ _ _ _ _ _ _
      | exact ih5 _ _ _ _ _ _ _ _ _ _
      | exact spec_raWon.mono _ _ _ _ _
      | exact LeO.none _
      | refine LeO.ite ?_ ?_
      | refine LeO.bind ?_ (fun _ => ?_)
    · intro y0 y1 y2 y3 y4 y5 y6 y7 y8 y9 y10
      unfold spec_raWays.j4
      repeat' first
      | (with_reducible exact ih0 _ _ _ _ _ _)
      | (with_reducible exact ih1 _ _ _ _ _ _ _ _)
      | (with_reducible exact ih2 _ _ _ _ _ _ _ _ _ _ _)
      | (with_reducible exact ih3 _ _ _ _ _ _ _ _ _ _)
      | (with_reducible exact ih4 _ _ _ _ _ _ _ _ _ _ _)
      | (with_reducible exact ih5 _ _ _ _ _ _ _ _ _ _)
      | (with_reducible exact spec_raWon.mono _ _ _ _ _)
      | (with_reducible exact LeO.refl _)
      | (with_reducible exact LeO.none _)
      | (with_reducible refine LeO.ite ?_ ?_)
      | (with_reducible refine LeO.bind ?_ (fun _ => ?_))
      | exact ih0 _ _ _ _ _ _
      | exact ih1 _ _ _ _ _ _ _ _
      | exact ih2 _ _ _ _ _ _ _ _ _ _ _
      | exact ih3 _ _ _ _ _ _ _ _ _ _
      | exact ih4 _ _ _ _ _ _ _ _ _ _ _
      | exact ih5 _ _ _ _ _ _ _ _ _ _
      | exact spec_raWon.mono _ _ _ _ _
      | exact LeO.none _
      | refine LeO.ite ?_ ?_
      | refine LeO.bind ?_ (fun _ => ?_)
    · intro y0 y1 y2 y3 y4 y5 y6 y7 y8 y9
      unfold spec_raWays.j5
      repeat' first
      | (with_reducible exact ih0 _ _ _ _ _ _)
      | (with_reducible exact ih1 _ _ _ _ _ _ _ _)
      | (with_reducible exact ih2 _ _ _ _ _ _ _ _ _ _ _)
      | (with_reducible exact ih3 _ _ _ _ _ _ _ _ _ _)
      | (with_reducible exact ih4 _ _ _ _ _ _ _ _ _ _ _)
      | (with_reducible exact ih5 _ _ _ _ _ _ _ _ _ _)
      | (with_reducible exact spec_raWon.mono _ _ _ _ _)
      | (with_reducible exact LeO.refl _)
      | (with_reducible exact LeO.none _)
      | (with_reducible refine LeO.ite ?_ ?_)
      | (with_reducible refine LeO.bind ?_ (fun _ => ?_))
      | exact ih0 _ _ _ _ _ _
      | exact ih1 _ _ _ _ _ _ _ _
      | exact ih2 _ _ _ _ _ _ _ _ _ _ _
      | exact ih3 _ _ _ _ _ _ _ _ _ _
      | exact ih4 _ _ _ _ _ _ _ _ _ _ _
      | exact ih5 _ _ _ _ _ _ _ _ _ _
      | exact spec_raWon.mono _ _ _ _ _
      | exact LeO.none _
      | refine LeO.ite ?_ ?_
      | refine LeO.bind ?_ (fun _ => ?_)
theorem spec_raWays.mono : ∀ a0 a1 a2 a3 k, LeO (spec_raWays.f k a0 a1 a2 a3) (spec_raWays.f (k + 1) a0 a1 a2 a3) := by
  intro a0 a1 a2 a3 k
  obtain ⟨ih0, ih1, ih2, ih3, ih4, ih5⟩ := spec_raWays.mono_l k
  unfold spec_raWays.f
  repeat' first
      | (with_reducible exact ih0 _ _ _ _ _ _)
      | (with_reducible exact ih1 _ _ _ _ _ _ _ _)
      | (with_reducible exact ih2 _ _ _ _ _ _ _ _ _ _ _)
      | (with_reducible exact ih3 _ _ _ _ _ _ _ _ _ _)
      | (with_reducible exact ih4 _ _ _ _ _ _ _ _ _ _ _)
      | (with_reducible exact ih5 _ _ _ _ _ _ _ _ _ _)
      | (with_reducible exact spec_raWon.mono _ _ _ _ _)
      | (with_reducible exact LeO.refl _)
      | (with_reducible exact LeO.none _)
      | (with_reducible refine LeO.ite ?_ ?_)
      | (with_reducible refine LeO.bind ?_ (fun _ => ?_))
      | exact ih0 _ _ _ _ _ _
      | exact ih1 _ _ _ _ _ _ _ _
      | exact ih2 _ _ _ _ _ _ _ _ _ _ _
      | exact ih3 _ _ _ _ _ _ _ _ _ _
      | exact ih4 _ _ _ _ _ _ _ _ _ _ _
      | exact ih5 _ _ _ _ _ _ _ _ _ _
      | exact spec_raWon.mono _ _ _ _ _
      | exact LeO.none _
      | refine LeO.ite ?_ ?_
      | refine LeO.bind ?_ (fun _ => ?_)
set_option maxHeartbeats 8000000 in
set_option maxRecDepth 100000 in
theorem spec_raWays.calls (k : Nat) (a0_0 : Int) (a0_1 : Int) (a1 : Int) (a2 : Int) (r : List (List Int)) (w : World) (h : spec_raWays.f k a0_0 a0_1 a1 a2 = some r) :
    Calls Try.prog 48 #[.agg #[.int .i64 a0_0, .int .i64 a0_1], .int .i64 a1, .int .i64 a2] w fun e w' => ∃ v0_ : Value, e = .returned (v0_) ∧ Kd.S (Kd.slice 3 (Kd.int .i64)) 52 w' w.heap.size (fun _ => True) v0_ r ∧ Below w.heap.size w w' := by
  have hu31 := Try.underlying31
  have HB := Aside0.mk (Below.refl w.heap.size w)
  have H : (spec_raWays.l0 k a1 a2 ([] : List (List Int)) 0 a0_0 a0_1) = some r := h
  clear h
  have H' := Aside0.mk H
  clear H
  go_enter Try.func48, Try.ntmps48
  go_wp2_with (first | ((with_reducible refine gate_dst (N := 3) rfl ?_); refine box_event ?hg (N := 3) ?hd (cs := #[.int .i64 a0_0, .int .i64 a0_1]) (t := 31) ?hr ?_; (case hd => rfl); (case hg => rfl); (case hr => first | (go_simp; done) | (go_simp; rfl)); intro gb102 hg w4 hbox hb; have n0_ := Aside0.mk (below_step (by repeat (first | (with_reducible first | exact HB.out | apply below_alloc | apply pw_below_drewN | apply below_drew1) | exact HB.out)) hb); have n1_ := Aside0.mk (hbox); have n2_ := Aside0.mk ((by rw [hg]; exact (below_size (by repeat (first | (with_reducible first | exact HB.out | apply below_alloc | apply pw_below_drewN | apply below_drew1) | exact HB.out))) : w.heap.size ≤ gb102)); have n3_ := Aside0.mk ((by rw [hg]; exact (below_size (by repeat (first | (with_reducible first | exact HB.out | apply below_alloc | apply pw_below_drewN | apply below_drew1) | exact HB.out))) : w.heap.size ≤ gb102)); clear HB; have HB := n0_; have BK102 := n1_; have GW102 := n2_; have GE102 := n3_; clear n0_ n1_ n2_ n3_; clear hb hbox hg))
  go_loopg [7, 8] k (fun kq v7 v8 w' => ∃ (x7_1 : List (List Int)) (x8_1 : Int), v8 = .int .i64 x8_1 ∧ Aside0 (spec_raWays.l0 kq a1 a2 x7_1 x8_1 a0_0 a0_1 = some r) ∧ Aside0 (kq ≤ k) ∧ Aside0 (x8_1 = (x7_1.length : Int)) ∧ Aside0 (Kd.S (Kd.slice 3 (Kd.int .i64)) 52 w' w.heap.size (fun _ => True) v7 x7_1) ∧ Aside0 (w'.heap[gb102]? = some (.cells #[.int .i64 a0_0, .int .i64 a0_1] 31 (0, 0))) ∧ Aside0 (Below w.heap.size w w'))
  case atStart => exact ⟨(([] : List (List Int))), (0), (by first | rfl | (simp; done) | (simp [*]; done)), H', ⟨Nat.le_refl _⟩, ⟨rfl⟩, ⟨by first | exact Kd.S_nil _ _ _ _ _ | exact Kd.N_nil _ _ _ _ _ | exact Kd.V_nil _ _ _ _ _ | exact Kd.Q_nil _ _ _ _ _ | exact Kd.R_nil _ _ _ _ _⟩, ⟨by (with_reducible repeat (first | refine blk_drewN ?_ _ | refine blk_drew ?_ | refine blk_alloc ?_ _)); exact BK102.out⟩, ⟨by repeat (first | (with_reducible first | exact HB.out | apply below_alloc | apply pw_below_drewN | apply below_drew1 | refine below_set ?_ GE102.out) | exact HB.out)⟩⟩
  case round =>
    clear H'
    try clear p2
    try clear c4
    obtain ⟨x7_1, x8_1, rfl, HA, HK1, HX8, HO_7, BK102, HB⟩ := hrel
    cases gk with
    | zero => exact absurd HA.out (by simp [spec_raWays.l0])
    | succ k1 =>
      have H := HA.out
      clear HA
      simp only [spec_raWays.l0] at H
      by_cases c5 : x8_1 ≤ a1
      · rw [if_pos c5] at H
        have c5b0 : decide (x8_1 ≤ a1) = true := decide_eq_true c5
        clear c5
        obtain ⟨ji6, hji6⟩ : ∃ j_ : Int, (wrap64 (a2 + 1)) = j_ := ⟨_, rfl⟩
        replace H : (if 0 ≤ (ji6) then (if (ji6 : Int).toNat ≤ 35184372088832 then (if x7_1.length < 5864062014805 then (spec_raWays.l1 k1 a1 a2 (x7_1 ++ [(List.replicate (ji6 : Int).toNat 0)]) x8_1 ji6 0 a0_0 a0_1) else (none)) else (none)) else (none)) = some r := by first | (rw [hji6] at H; exact H) | (simp only [hji6] at H ⊢; exact H)
        have hji6w : (IntKind.i64.wrap (a2 + 1)) = ji6 := (i64_w _).trans hji6
        by_cases c7 : 0 ≤ (ji6)
        · rw [if_pos c7] at H
          have c7b0 := eq_true c7
          have c7b1 : decide (0 ≤ (ji6)) = true := decide_eq_true c7
          clear c7
          by_cases c8 : (ji6 : Int).toNat ≤ 35184372088832
          · rw [if_pos c8] at H
            have c8b0 := eq_true c8
            have c8b1 : decide ((ji6 : Int).toNat ≤ 35184372088832) = true := decide_eq_true c8
            clear c8
            obtain ⟨y103, hy103⟩ : ∃ y_ : List Int, y_ = (List.replicate (ji6 : Int).toNat 0) := ⟨_, rfl⟩
            replace H : (if x7_1.length < 5864062014805 then (spec_raWays.l1 k1 a1 a2 (x7_1 ++ [y103]) x8_1 ji6 0 a0_0 a0_1) else (none)) = some r := by first | (rw [hy103]; with_reducible exact H) | (have H2_ := (Option.bind_some _ _).symm.trans H; rw [hy103]; with_reducible exact H2_) | (have H2_ := (Option.bind_some _ _).symm.trans H; with_reducible exact H2_) | with_reducible exact H | (rw [hy103]; exact H) | exact H
            have Ny103 := Aside0.mk hy103
            clear hy103
            by_cases c9 : x7_1.length < 5864062014805
            · rw [if_pos c9] at H
              have LMc9 := Aside0.mk c9
              clear c9
              obtain ⟨y106, hy106⟩ : ∃ y_ : List (List Int), y_ = (x7_1 ++ [y103]) := ⟨_, rfl⟩
              replace H : (spec_raWays.l1 k1 a1 a2 y106 x8_1 ji6 0 a0_0 a0_1) = some r := by first | (rw [hy106]; with_reducible exact H) | (have H2_ := (Option.bind_some _ _).symm.trans H; rw [hy106]; with_reducible exact H2_) | (have H2_ := (Option.bind_some _ _).symm.trans H; with_reducible exact H2_) | with_reducible exact H | (rw [hy106]; exact H) | exact H
              have Ny106 := Aside0.mk hy106
              clear hy106
              have h0_ : 0 ≤ ji6 := of_decide_eq_true c7b1
              have EJ := Aside0.mk (show ji6 = (y103.length : Int) by (rw [Ny103.out, List.length_replicate]; omega))
              clear h0_
              replace H : (spec_raWays.l1 k1 a1 a2 y106 x8_1 (y103.length : Int) 0 a0_0 a0_1) = some r := by rw [← EJ.out]; exact H
              have H' := Aside0.mk H
              clear H
              go_wp2_with (first | ((with_reducible refine gate_dst (N := 19) rfl ?_); refine Kd.R_make (Kd.int .i64) _ 3 rfl (N := 19) rfl 52 _ _ rfl ji6 rfl rfl Try.underlying52 (.int .i64 0) 8 info3 rfl (by decide) (by omega) 0 (ok := fun _ => True) (okp := fun _ => True) rfl (fun _ hk => hk) trivial (of_decide_eq_true (by first | (with_reducible assumption) | assumption)) (Nat.le_trans (Nat.mul_le_mul_right _ (of_decide_eq_true (by first | (with_reducible assumption) | assumption) : ji6.toNat ≤ 35184372088832)) (by omega)) (Below.refl _ _) (Nat.le_refl _) ?_; intro v104 w10 ho11 hb hg_ hnew_; clear hg_ hnew_; (first | rw [← Ny103.out] at ho11 | (simp only [Int.reduceToNat] at ho11; rw [← Ny103.out] at ho11)); have n0_ := Aside0.mk (Kd.S_elder' (by (with_reducible repeat (first | apply Kd.S_alloc | apply Kd.S_drewN | apply Kd.S_drew)); exact HO_7.out) (Kd.R_base ho11) hb); have n1_ := Aside0.mk (Kd.R_lower ho11 (below_size (by repeat (first | (with_reducible first | exact HB.out | apply below_alloc | apply pw_below_drewN | apply below_drew1 | refine below_set ?_ GE102.out) | exact HB.out)))); have n2_ := Aside0.mk (blk_below (g := gb102) (o := .cells #[.int .i64 a0_0, .int .i64 a0_1] 31 (0, 0)) (by (with_reducible repeat (first | refine blk_drewN ?_ _ | refine blk_drew ?_ | refine blk_alloc ?_ _)); exact BK102.out) hb); have n3_ := Aside0.mk (below_step (by repeat (first | (with_reducible first | exact HB.out | apply below_alloc | apply pw_below_drewN | apply below_drew1 | refine below_set ?_ GE102.out) | exact HB.out)) hb); clear HO_7; clear BK102; clear HB; have HO_7 := n0_; have HO105 := n1_; have BK102 := n2_; have HB := n3_; clear n0_ n1_ n2_ n3_; clear hb ho11; obtain ⟨Ao13, co13, eo13⟩ := Kd.R_slice HO105.out; subst eo13) | ((with_reducible refine gate_builtin (b := .append) (xs := #[.tmp 20, .tmp 22]) rfl ?_); at_builtin; refine S_append_cell (Kd.slice 3 (Kd.int .i64)) (w0 := w) w.heap.size rfl (.tmp 20) (.tmp 22) 53 52 (.slice none 0 0) 24 rfl Try.underlying53 info52 rfl (by decide) (by omega) u7 x7_1 y103 [.slice Ao13 y103.length co13] (fun _ => True) (fun k_ => some k_ = (.slice Ao13 y103.length co13 : Value).ownBlock) rfl rfl ?aP (fun k_ hk_ => ((Kd.R_mono (ok' := fun k_ => ((fun _ => True)) k_ ∧ some k_ ≠ (u7 : Value).ownBlock) (Kd.R_apart' (HO105.out) (Kd.S_typed HO_7.out) (by decide)) (fun k_ hk => ⟨trivial, hk.2⟩))).1 k_ hk_.symm) ?aF ?aO ?aB ?aS ?aL ?_; (case aP => exact Kd.M_row (Kd.R_mono (Kd.R_tight rfl (Kd.R_mono (ok' := fun k_ => ((fun _ => True)) k_ ∧ some k_ ≠ (u7 : Value).ownBlock) (Kd.R_apart' (HO105.out) (Kd.S_typed HO_7.out) (by decide)) (fun k_ hk => ⟨trivial, hk.2⟩))) (fun _ h_ => h_))); (case aB => exact (by repeat (first | (with_reducible first | exact HB.out | apply below_alloc | apply pw_below_drewN | apply below_drew1 | refine below_set ?_ GE102.out) | exact HB.out))); (case aF => exact (fun _ _ => trivial)); (case aO => exact (by (with_reducible repeat (first | apply Kd.S_alloc | apply Kd.S_drewN | apply Kd.S_drew)); exact Kd.S_mono HO_7.out (fun k_ hk => ⟨trivial, fun e_ => hk.2 e_⟩))); (case aS => exact (below_size (by repeat (first | (with_reducible first | exact HB.out | apply below_alloc | apply pw_below_drewN | apply below_drew1 | refine below_set ?_ GE102.out) | exact HB.out)))); (case aL => have := LMc9.out; omega); intro v107 w12 ho hb hg hat hrow; rw [← Ny106.out] at ho; have HW := Aside0.mk (hrow rfl _ rfl); clear hrow; have n0_ := Aside0.mk (blk_grown (g := gb102) (o := .cells #[.int .i64 a0_0, .int .i64 a0_1] 31 (0, 0)) (by (with_reducible repeat (first | refine blk_drewN ?_ _ | refine blk_drew ?_ | refine blk_alloc ?_ _)); exact BK102.out) hg (Kd.S_ne HO_7.out BK102.out (by decide))); have n1_ := Aside0.mk (hb); have n2_ := Aside0.mk (ho); clear BK102; clear HB; clear HO_7; clear HO105; have BK102 := n0_; have HB := n1_; have HO108 := n2_; clear n0_ n1_ n2_; clear ho hb hg hat))
              go_loopg [26] k1 (fun kq v26 w' => ∃ (x7_2 : List (List Int)) (x26_2 : Int), v26 = .int .i64 x26_2 ∧ Aside0 (spec_raWays.l1 kq a1 a2 x7_2 x8_1 (y103.length : Int) x26_2 a0_0 a0_1 = some r) ∧ Aside0 (kq ≤ k1) ∧ Aside0 (x7_2.length = x7_1.length + 1) ∧ Aside0 (RowAt 52 w' v107 x7_1.length (.slice Ao13 y103.length co13)) ∧ Aside0 (Kd.S (Kd.slice 3 (Kd.int .i64)) 52 w' w.heap.size (fun _ => True) v107 x7_2) ∧ Aside0 (w'.heap[gb102]? = some (.cells #[.int .i64 a0_0, .int .i64 a0_1] 31 (0, 0))) ∧ Aside0 (Below w.heap.size w w'))
              case atStart => exact ⟨(y106), (0), (by first | rfl | (simp; done) | (simp [*]; done)), H', ⟨Nat.le_refl _⟩, ⟨by rw [Ny106.out, List.length_append]; rfl⟩, ⟨by (with_reducible repeat (first | refine RowAt.drewN ?_ _ | refine RowAt.drew ?_ | refine RowAt.alloc ?_ _)); exact HW.out⟩, ⟨by (with_reducible repeat (first | apply Kd.S_alloc | apply Kd.S_drewN | apply Kd.S_drew)); exact HO108.out⟩, ⟨by (with_reducible repeat (first | refine blk_drewN ?_ _ | refine blk_drew ?_ | refine blk_alloc ?_ _)); exact BK102.out⟩, ⟨by repeat (first | (with_reducible first | exact HB.out | apply below_alloc | apply pw_below_drewN | apply below_drew1 | refine below_set ?_ GE102.out) | exact HB.out)⟩⟩
              case round =>
                clear H'
                try clear p2
                try clear c4
                try clear c5
                try clear c5b0
                try clear p6
                try clear c7
                try clear c7b0
                try clear c7b1
                try clear c8
                try clear c8b0
                try clear c8b1
                try clear c9
                try clear p2
                obtain ⟨x7_2, x26_2, rfl, HA, HK2, HL2, HW, HO_7, BK102, HB⟩ := hrel
                cases gk with
                | zero => exact absurd HA.out (by simp [spec_raWays.l1])
                | succ k2 =>
                  have H := HA.out
                  clear HA
                  simp only [spec_raWays.l1] at H
                  by_cases c14 : x26_2 < (y103.length : Int)
                  · rw [if_pos c14] at H
                    have c14b0 : decide (x26_2 < (y103.length : Int)) = true := decide_eq_true c14
                    clear c14
                    have HC15 := Aside0.mk H
                    clear H
                    go_upto_region 11 with (fail)
                    go_cut [34] (fun v34 wc => ∃ (kq : Nat) (x34_14 : Bool), v34 = .bool x34_14 ∧ Aside0 (spec_raWays.j2 kq a1 a2 x7_2 x8_1 x26_2 0 (y103.length : Int) x26_2 x34_14 a0_0 a0_1 = some r) ∧ Aside0 (kq ≤ k2) ∧ Aside0 (RowAt 52 wc v107 x7_1.length (.slice Ao13 y103.length co13)) ∧ Aside0 (Kd.S (Kd.slice 3 (Kd.int .i64)) 52 wc w.heap.size (fun _ => True) v107 x7_2) ∧ Aside0 (wc.heap[gb102]? = some (.cells #[.int .i64 a0_0, .int .i64 a0_1] 31 (0, 0))) ∧ Aside0 (Below w.heap.size w wc))
                    case first =>
                      have H := HC15.out
                      clear HC15
                      by_cases c16 : x8_1 = 0
                      · rw [if_pos c16] at H
                        have c16b0 : (x8_1 == 0) = true := beq_iff_eq.mpr c16
                        have c16b1 : (x8_1 != 0) = false := bne_eq_false_iff_eq.mpr c16
                        clear c16
                        (first | rw [c16b0] | (simp only [i64_w, i32_w]; rw [c16b0]) | skip)
                        have H' := Aside0.mk H
                        clear H
                        go_wp2
                        go_meet
                        case rel => exact ⟨_, ((x26_2 == 0)), (by first | rfl | (simp; done) | (simp [*]; done)), H', ⟨by have := HK1.out; have := HK2.out; first | omega | exact Nat.le_refl _⟩, ⟨by (with_reducible repeat (first | refine RowAt.drewN ?_ _ | refine RowAt.drew ?_ | refine RowAt.alloc ?_ _)); exact HW.out⟩, ⟨by (with_reducible repeat (first | apply Kd.S_alloc | apply Kd.S_drewN | apply Kd.S_drew)); exact HO_7.out⟩, ⟨by (with_reducible repeat (first | refine blk_drewN ?_ _ | refine blk_drew ?_ | refine blk_alloc ?_ _)); exact BK102.out⟩, ⟨by repeat (first | (with_reducible first | exact HB.out | apply below_alloc | apply pw_below_drewN | apply below_drew1 | refine below_set ?_ GE102.out) | exact HB.out)⟩⟩
                      · rw [if_neg c16] at H
                        have c16b0 : (x8_1 == 0) = false := beq_eq_false_iff_ne.mpr c16
                        have c16b1 : (x8_1 != 0) = true := bne_iff_ne.mpr c16
                        (first | rw [c16b0] | (simp only [i64_w, i32_w]; rw [c16b0]) | skip)
                        have H' := Aside0.mk H
                        clear H
                        go_wp2
                        go_meet
                        case rel => exact ⟨_, (false), (by first | rfl | (simp; done) | (simp [*]; done)), H', ⟨by have := HK1.out; have := HK2.out; first | omega | exact Nat.le_refl _⟩, ⟨by (with_reducible repeat (first | refine RowAt.drewN ?_ _ | refine RowAt.drew ?_ | refine RowAt.alloc ?_ _)); exact HW.out⟩, ⟨by (with_reducible repeat (first | apply Kd.S_alloc | apply Kd.S_drewN | apply Kd.S_drew)); exact HO_7.out⟩, ⟨by (with_reducible repeat (first | refine blk_drewN ?_ _ | refine blk_drew ?_ | refine blk_alloc ?_ _)); exact BK102.out⟩, ⟨by repeat (first | (with_reducible first | exact HB.out | apply below_alloc | apply pw_below_drewN | apply below_drew1 | refine below_set ?_ GE102.out) | exact HB.out)⟩⟩
                    case rest =>
                      clear HC15
                      try clear c1
                      try clear p2
                      try clear c4
                      try clear c5
                      try clear c5b0
                      try clear p6
                      try clear c7
                      try clear c7b0
                      try clear c7b1
                      try clear c8
                      try clear c8b0
                      try clear c8b1
                      try clear c9
                      try clear c14
                      try clear c14b0
                      try clear c16
                      try clear c16b0
                      try clear c16b1
                      try clear p2
                      try clear p6
                      obtain ⟨kq, x34_14, rfl, HA, HJ14, HW, HO_7, BK102, HB⟩ := hcut
                      cases kq with
                      | zero => exact absurd HA.out (by simp [spec_raWays.j2])
                      | succ kj14 =>
                        have H := HA.out
                        clear HA
                        simp only [spec_raWays.j2] at H
                        have HC17 := Aside0.mk H
                        clear H
                        go_upto_if 34 with (fail)
                        go_cut [11] (fun v11 wc => ∃ (kq : Nat) (x11_16 : Int), v11 = .int .i64 x11_16 ∧ Aside0 (spec_raWays.j3 kq a1 a2 x7_2 x8_1 x26_2 x11_16 (y103.length : Int) x26_2 a0_0 a0_1 = some r) ∧ Aside0 (kq ≤ kj14) ∧ Aside0 (RowAt 52 wc v107 x7_1.length (.slice Ao13 y103.length co13)) ∧ Aside0 (Kd.S (Kd.slice 3 (Kd.int .i64)) 52 wc w.heap.size (fun _ => True) v107 x7_2) ∧ Aside0 (wc.heap[gb102]? = some (.cells #[.int .i64 a0_0, .int .i64 a0_1] 31 (0, 0))) ∧ Aside0 (Below w.heap.size w wc))
                        case first =>
                          have H := HC17.out
                          clear HC17
                          by_cases c18 : x34_14 = true
                          · subst c18
                            have H1 : (spec_raWays.j3 kj14 a1 a2 x7_2 x8_1 x26_2 1 (y103.length : Int) x26_2 a0_0 a0_1) = some r := by rw [if_pos rfl] at H; exact H
                            clear H
                            have H := H1
                            clear H1
                            have H' := Aside0.mk H
                            clear H
                            go_wp2
                            go_meet
                            case rel => exact ⟨_, (1), (by first | rfl | (simp; done) | (simp [*]; done)), H', ⟨by have := HK1.out; have := HK2.out; have := HJ14.out; first | omega | exact Nat.le_refl _⟩, ⟨by (with_reducible repeat (first | refine RowAt.drewN ?_ _ | refine RowAt.drew ?_ | refine RowAt.alloc ?_ _)); exact HW.out⟩, ⟨by (with_reducible repeat (first | apply Kd.S_alloc | apply Kd.S_drewN | apply Kd.S_drew)); exact HO_7.out⟩, ⟨by (with_reducible repeat (first | refine blk_drewN ?_ _ | refine blk_drew ?_ | refine blk_alloc ?_ _)); exact BK102.out⟩, ⟨by repeat (first | (with_reducible first | exact HB.out | apply below_alloc | apply pw_below_drewN | apply below_drew1 | refine below_set ?_ GE102.out) | exact HB.out)⟩⟩
                          · replace c18 := Bool.eq_false_iff.mpr c18
                            subst c18
                            have H1 : (spec_raWays.j3 kj14 a1 a2 x7_2 x8_1 x26_2 0 (y103.length : Int) x26_2 a0_0 a0_1) = some r := by rw [if_neg (show ¬ (false = true) by decide)] at H; exact H
                            clear H
                            have H := H1
                            clear H1
                            have H' := Aside0.mk H
                            clear H
                            go_wp2
                            go_meet
                            case rel => exact ⟨_, (0), (by first | rfl | (simp; done) | (simp [*]; done)), H', ⟨by have := HK1.out; have := HK2.out; have := HJ14.out; first | omega | exact Nat.le_refl _⟩, ⟨by (with_reducible repeat (first | refine RowAt.drewN ?_ _ | refine RowAt.drew ?_ | refine RowAt.alloc ?_ _)); exact HW.out⟩, ⟨by (with_reducible repeat (first | apply Kd.S_alloc | apply Kd.S_drewN | apply Kd.S_drew)); exact HO_7.out⟩, ⟨by (with_reducible repeat (first | refine blk_drewN ?_ _ | refine blk_drew ?_ | refine blk_alloc ?_ _)); exact BK102.out⟩, ⟨by repeat (first | (with_reducible first | exact HB.out | apply below_alloc | apply pw_below_drewN | apply below_drew1 | refine below_set ?_ GE102.out) | exact HB.out)⟩⟩
                        case rest =>
                          clear HC17
                          try clear c1
                          try clear p2
                          try clear c4
                          try clear c5
                          try clear c5b0
                          try clear p6
                          try clear c7
                          try clear c7b0
                          try clear c7b1
                          try clear c8
                          try clear c8b0
                          try clear c8b1
                          try clear c9
                          try clear c14
                          try clear c14b0
                          try clear c16
                          try clear c16b0
                          try clear c16b1
                          try clear c18
                          try clear p2
                          try clear p6
                          obtain ⟨kq, x11_16, rfl, HA, HJ16, HW, HO_7, BK102, HB⟩ := hcut
                          cases kq with
                          | zero => exact absurd HA.out (by simp [spec_raWays.j3])
                          | succ kj16 =>
                            have H := HA.out
                            clear HA
                            simp only [spec_raWays.j3] at H
                            have HC19 := Aside0.mk H
                            clear H
                            go_upto_region 13 with (fail)
                            go_cut [44] (fun v44 wc => ∃ (kq : Nat) (x44_18 : Bool), v44 = .bool x44_18 ∧ Aside0 (spec_raWays.j4 kq a1 a2 x7_2 x8_1 x26_2 x11_16 (y103.length : Int) x26_2 x44_18 a0_0 a0_1 = some r) ∧ Aside0 (kq ≤ kj16) ∧ Aside0 (RowAt 52 wc v107 x7_1.length (.slice Ao13 y103.length co13)) ∧ Aside0 (Kd.S (Kd.slice 3 (Kd.int .i64)) 52 wc w.heap.size (fun _ => True) v107 x7_2) ∧ Aside0 (wc.heap[gb102]? = some (.cells #[.int .i64 a0_0, .int .i64 a0_1] 31 (0, 0))) ∧ Aside0 (Below w.heap.size w wc))
                            case first =>
                              have H := HC19.out
                              clear HC19
                              by_cases c20 : x8_1 > 0
                              · rw [if_pos c20] at H
                                have c20b0 : decide (0 < x8_1) = true := decide_eq_true c20
                                clear c20
                                (first | rw [c20b0] | (simp only [i64_w, i32_w]; rw [c20b0]) | skip)
                                replace H := Option.bind_eq_some_iff.mp H
                                obtain ⟨t109, A210, H⟩ := H
                                replace H : (spec_raWays.j4 kj16 a1 a2 x7_2 x8_1 x26_2 x11_16 (y103.length : Int) x26_2 (t109 == 0) a0_0 a0_1) = some r := H
                                have A21 := Aside0.mk A210
                                clear A210
                                have H' := Aside0.mk H
                                clear H
                                have hcz22_0 : wc.cell? ⟨gb102, 0, none⟩ = some (.int .i64 a0_0) := (blk_cell BK102.out 0).trans rfl
                                have hcz22_1 : wc.cell? ⟨gb102, 1, none⟩ = some (.int .i64 a0_1) := (blk_cell BK102.out 1).trans rfl
                                have hfz22_0 := blk_frozen BK102.out 0
                                have hfz22_1 := blk_frozen BK102.out 1
                                go_wp2_with (first | (go_at_call 37; (with_reducible refine (spec_raWon.calls kj16 a0_0 a0_1 (wrap64 (x8_1 - 1)) x26_2 t109 _ A21.out).mono ?_); rintro e w23 ⟨rfl, hb⟩; have nW_ := Aside0.mk (RowAt.below (by (with_reducible repeat (first | refine RowAt.drewN ?_ _ | refine RowAt.drew ?_ | refine RowAt.alloc ?_ _)); exact HW.out) hb); have n0_ := Aside0.mk (Kd.S_below (by (with_reducible repeat (first | apply Kd.S_alloc | apply Kd.S_drewN | apply Kd.S_drew)); exact HO_7.out) hb); have n1_ := Aside0.mk (blk_below (g := gb102) (o := .cells #[.int .i64 a0_0, .int .i64 a0_1] 31 (0, 0)) (by (with_reducible repeat (first | refine blk_drewN ?_ _ | refine blk_drew ?_ | refine blk_alloc ?_ _)); exact BK102.out) hb); have n2_ := Aside0.mk (below_step (by repeat (first | (with_reducible first | exact HB.out | apply below_alloc | apply pw_below_drewN | apply below_drew1 | refine below_set ?_ GE102.out) | exact HB.out)) hb); clear HO_7; clear BK102; clear HB; clear HW; have HO_7 := n0_; have BK102 := n1_; have HB := n2_; have HW := nW_; clear n0_ n1_ n2_ nW_; (try clear hb); (try clear hb2); (try clear hk); (try clear hi)))
                                go_meet
                                case rel => exact ⟨_, ((t109 == 0)), (by first | rfl | (simp; done) | (simp [*]; done)), H', ⟨by have := HK1.out; have := HK2.out; have := HJ14.out; have := HJ16.out; first | omega | exact Nat.le_refl _⟩, ⟨by (with_reducible repeat (first | refine RowAt.drewN ?_ _ | refine RowAt.drew ?_ | refine RowAt.alloc ?_ _)); exact HW.out⟩, ⟨by (with_reducible repeat (first | apply Kd.S_alloc | apply Kd.S_drewN | apply Kd.S_drew)); exact HO_7.out⟩, ⟨by (with_reducible repeat (first | refine blk_drewN ?_ _ | refine blk_drew ?_ | refine blk_alloc ?_ _)); exact BK102.out⟩, ⟨by repeat (first | (with_reducible first | exact HB.out | apply below_alloc | apply pw_below_drewN | apply below_drew1 | refine below_set ?_ GE102.out) | exact HB.out)⟩⟩
                              · rw [if_neg c20] at H
                                have c20b0 : decide (0 < x8_1) = false := decide_eq_false c20
                                clear c20
                                (first | rw [c20b0] | (simp only [i64_w, i32_w]; rw [c20b0]) | skip)
                                have H' := Aside0.mk H
                                clear H
                                go_wp2
                                go_meet
                                case rel => exact ⟨_, (false), (by first | rfl | (simp; done) | (simp [*]; done)), H', ⟨by have := HK1.out; have := HK2.out; have := HJ14.out; have := HJ16.out; first | omega | exact Nat.le_refl _⟩, ⟨by (with_reducible repeat (first | refine RowAt.drewN ?_ _ | refine RowAt.drew ?_ | refine RowAt.alloc ?_ _)); exact HW.out⟩, ⟨by (with_reducible repeat (first | apply Kd.S_alloc | apply Kd.S_drewN | apply Kd.S_drew)); exact HO_7.out⟩, ⟨by (with_reducible repeat (first | refine blk_drewN ?_ _ | refine blk_drew ?_ | refine blk_alloc ?_ _)); exact BK102.out⟩, ⟨by repeat (first | (with_reducible first | exact HB.out | apply below_alloc | apply pw_below_drewN | apply below_drew1 | refine below_set ?_ GE102.out) | exact HB.out)⟩⟩
                            case rest =>
                              clear HC19
                              try clear c1
                              try clear c2
                              try clear p2
                              try clear c4
                              try clear c5
                              try clear c5b0
                              try clear p6
                              try clear c7
                              try clear c7b0
                              try clear c7b1
                              try clear c8
                              try clear c8b0
                              try clear c8b1
                              try clear c9
                              try clear c14
                              try clear c14b0
                              try clear c16
                              try clear c16b0
                              try clear c16b1
                              try clear c18
                              try clear c20
                              try clear c20b0
                              try clear hcz22_0
                              try clear hcz22_1
                              try clear hfz22_0
                              try clear hfz22_1
                              try clear p2
                              try clear p6
                              obtain ⟨kq, x44_18, rfl, HA, HJ18, HW, HO_7, BK102, HB⟩ := hcut
                              cases kq with
                              | zero => exact absurd HA.out (by simp [spec_raWays.j4])
                              | succ kj18 =>
                                have H := HA.out
                                clear HA
                                simp only [spec_raWays.j4] at H
                                have HC24 := Aside0.mk H
                                clear H
                                go_upto_if 44 with (fail)
                                go_cut [11] (fun v11 wc => ∃ (kq : Nat) (x11_23 : Int), v11 = .int .i64 x11_23 ∧ Aside0 (spec_raWays.j5 kq a1 a2 x7_2 x8_1 x26_2 x11_23 (y103.length : Int) x26_2 a0_0 a0_1 = some r) ∧ Aside0 (kq ≤ kj18) ∧ Aside0 (RowAt 52 wc v107 x7_1.length (.slice Ao13 y103.length co13)) ∧ Aside0 (Kd.S (Kd.slice 3 (Kd.int .i64)) 52 wc w.heap.size (fun _ => True) v107 x7_2) ∧ Aside0 (wc.heap[gb102]? = some (.cells #[.int .i64 a0_0, .int .i64 a0_1] 31 (0, 0))) ∧ Aside0 (Below w.heap.size w wc))
                                case first =>
                                  have H := HC24.out
                                  clear HC24
                                  by_cases c25 : x44_18 = true
                                  · subst c25
                                    have H1 : (if 0 ≤ (wrap64 (x8_1 - 1)) then (if (wrap64 (x8_1 - 1)) < (x7_2.length : Int) then (if 0 ≤ x26_2 then (if x26_2 < ((rd_L1 x7_2 (wrap64 (x8_1 - 1))).length : Int) then (spec_raWays.j5 kj18 a1 a2 x7_2 x8_1 x26_2 (wrap64 (x11_16 + (rd (rd_L1 x7_2 (wrap64 (x8_1 - 1))) x26_2))) (y103.length : Int) x26_2 a0_0 a0_1) else (none)) else (none)) else (none)) else (none)) = some r := by rw [if_pos rfl] at H; exact H
                                    clear H
                                    have H := H1
                                    clear H1
                                    obtain ⟨ji26, hji26⟩ : ∃ j_ : Int, (wrap64 (x8_1 - 1)) = j_ := ⟨_, rfl⟩
                                    replace H : (if 0 ≤ (ji26) then (if (ji26) < (x7_2.length : Int) then (if 0 ≤ x26_2 then (if x26_2 < ((rd_L1 x7_2 (ji26)).length : Int) then (spec_raWays.j5 kj18 a1 a2 x7_2 x8_1 x26_2 (wrap64 (x11_16 + (rd (rd_L1 x7_2 (ji26)) x26_2))) (y103.length : Int) x26_2 a0_0 a0_1) else (none)) else (none)) else (none)) else (none)) = some r := by first | (rw [hji26] at H; exact H) | (simp only [hji26] at H ⊢; exact H)
                                    have hji26w : (IntKind.i64.wrap (x8_1 - 1)) = ji26 := (i64_w _).trans hji26
                                    by_cases c27 : 0 ≤ (ji26)
                                    · rw [if_pos c27] at H
                                      have c27b0 : decide (0 ≤ (ji26)) = true := decide_eq_true c27
                                      clear c27
                                      (first | rw [c27b0] | (simp only [i64_w, i32_w]; rw [c27b0]) | skip)
                                      by_cases c28 : (ji26) < (x7_2.length : Int)
                                      · rw [if_pos c28] at H
                                        have c28b0 : decide ((ji26) < (x7_2.length : Int)) = true := decide_eq_true c28
                                        clear c28
                                        by_cases c29 : 0 ≤ x26_2
                                        · rw [if_pos c29] at H
                                          have c29b0 : decide (0 ≤ x26_2) = true := decide_eq_true c29
                                          clear c29
                                          by_cases c30 : x26_2 < ((rd_L1 x7_2 (ji26)).length : Int)
                                          · rw [if_pos c30] at H
                                            have c30b0 : decide (x26_2 < ((rd_L1 x7_2 (ji26)).length : Int)) = true := decide_eq_true c30
                                            clear c30
                                            have H' := Aside0.mk H
                                            clear H
                                            obtain ⟨Ao31, co31, eo31⟩ := Kd.S_slice HO_7.out
                                            subst eo31
                                            have p110 : 0 ≤ ((ji26) : Int) := of_decide_eq_true (by first | (with_reducible assumption) | assumption)
                                            have q110 : (ji26) < (x7_2.length : Int) := of_decide_eq_true (by first | (with_reducible assumption) | assumption)
                                            obtain ⟨ad110, A110_0, c110_0, e110, hx110_0, hl110_0, hi110_0⟩ := at_L1 (Kd.S_reads' HO_7.out).2.2 (ji26) p110 q110
                                            cases e110
                                            obtain ⟨ce110, hce110, hMe110, hcc110⟩ := Kd.S_get HO_7.out [] (ji26) p110 (by first | exact q110 | exact of_decide_eq_true (by first | (with_reducible assumption) | assumption) | (have e_ := (Kd.S_reads' HO_7.out).1; omega))
                                            obtain ⟨ve110_0, rfl, ge110_0⟩ := hMe110
                                            have hv110_0 := hcc110 0 _ rfl
                                            rw [Nat.add_zero, show ((Kd.slice 3 (Kd.int .i64))).sz = 1 from rfl, Nat.mul_one] at hv110_0
                                            replace hv110_0 := Option.some.inj (hv110_0.symm.trans hx110_0)
                                            rw [hv110_0] at ge110_0
                                            have HL110_0 := Aside0.mk (show Kd.R (Kd.int .i64) 3 _ _ _ _ (rd_L1 x7_2 (ji26)) from ge110_0)
                                            clear hv110_0 ge110_0
                                            have HX110_0 := Aside0.mk hx110_0
                                            clear hcc110 hce110
                                            have HR110_0 := Aside0.mk hi110_0
                                            have HC110_0 := Aside0.mk hl110_0
                                            clear hi110_0 hl110_0
                                            replace p110 := eq_true p110
                                            replace q110 := eq_true q110
                                            have p111 : 0 ≤ (x26_2 : Int) := of_decide_eq_true (by first | (with_reducible assumption) | assumption)
                                            have q111 : x26_2 < ((rd_L1 x7_2 (ji26)).length : Int) := of_decide_eq_true (by first | (with_reducible assumption) | assumption)
                                            obtain ⟨ad111, e111, hx111_0⟩ := Kd.at_int (by repeat (first | (with_reducible exact HR110_0.out) | (with_reducible refine Kd.C_alloc ?_ _) | (with_reducible refine Kd.C_drewN ?_ _) | (with_reducible refine Kd.C_drew ?_) | exact HR110_0.out)) x26_2 p111 q111
                                            cases e111
                                            replace p111 := eq_true p111
                                            replace q111 := eq_true q111
                                            go_wp2
                                            go_meet
                                            case rel => exact ⟨_, (wrap64 (x11_16 + (rd (rd_L1 x7_2 (ji26)) x26_2))), (by first | rfl | (simp; done) | (simp only [← hji26] <;> (first | rfl | simp)) | (simp [*]; done)), H', ⟨by have := HK1.out; have := HK2.out; have := HJ14.out; have := HJ16.out; have := HJ18.out; first | omega | exact Nat.le_refl _⟩, ⟨by (with_reducible repeat (first | refine RowAt.drewN ?_ _ | refine RowAt.drew ?_ | refine RowAt.alloc ?_ _)); exact HW.out⟩, ⟨by (with_reducible repeat (first | apply Kd.S_alloc | apply Kd.S_drewN | apply Kd.S_drew)); exact HO_7.out⟩, ⟨by (with_reducible repeat (first | refine blk_drewN ?_ _ | refine blk_drew ?_ | refine blk_alloc ?_ _)); exact BK102.out⟩, ⟨by repeat (first | (with_reducible first | exact HB.out | apply below_alloc | apply pw_below_drewN | apply below_drew1 | refine below_set ?_ GE102.out) | exact HB.out)⟩⟩
                                          · rw [if_neg c30] at H
                                            exact absurd H (by simp)
                                        · rw [if_neg c29] at H
                                          exact absurd H (by simp)
                                      · rw [if_neg c28] at H
                                        exact absurd H (by simp)
                                    · rw [if_neg c27] at H
                                      exact absurd H (by simp)
                                  · replace c25 := Bool.eq_false_iff.mpr c25
                                    subst c25
                                    have H1 : (spec_raWays.j5 kj18 a1 a2 x7_2 x8_1 x26_2 x11_16 (y103.length : Int) x26_2 a0_0 a0_1) = some r := by rw [if_neg (show ¬ (false = true) by decide)] at H; exact H
                                    clear H
                                    have H := H1
                                    clear H1
                                    have H' := Aside0.mk H
                                    clear H
                                    go_wp2
                                    go_meet
                                    case rel => exact ⟨_, (x11_16), (by first | rfl | (simp; done) | (simp [*]; done)), H', ⟨by have := HK1.out; have := HK2.out; have := HJ14.out; have := HJ16.out; have := HJ18.out; first | omega | exact Nat.le_refl _⟩, ⟨by (with_reducible repeat (first | refine RowAt.drewN ?_ _ | refine RowAt.drew ?_ | refine RowAt.alloc ?_ _)); exact HW.out⟩, ⟨by (with_reducible repeat (first | apply Kd.S_alloc | apply Kd.S_drewN | apply Kd.S_drew)); exact HO_7.out⟩, ⟨by (with_reducible repeat (first | refine blk_drewN ?_ _ | refine blk_drew ?_ | refine blk_alloc ?_ _)); exact BK102.out⟩, ⟨by repeat (first | (with_reducible first | exact HB.out | apply below_alloc | apply pw_below_drewN | apply below_drew1 | refine below_set ?_ GE102.out) | exact HB.out)⟩⟩
                                case rest =>
                                  clear HC24
                                  try clear c1
                                  try clear p1
                                  try clear q1
                                  try clear hx1
                                  try clear c2
                                  try clear p2
                                  try clear c3
                                  try clear c4
                                  try clear c5
                                  try clear c5b0
                                  try clear p6
                                  try clear c7
                                  try clear c7b0
                                  try clear c7b1
                                  try clear c8
                                  try clear c8b0
                                  try clear c8b1
                                  try clear c9
                                  try clear c11
                                  try clear p11
                                  try clear q11
                                  try clear hx11
                                  try clear c14
                                  try clear c14b0
                                  try clear c16
                                  try clear c16b0
                                  try clear c16b1
                                  try clear c18
                                  try clear c20
                                  try clear c20b0
                                  try clear c25
                                  try clear c27
                                  try clear c27b0
                                  try clear c28
                                  try clear c28b0
                                  try clear c29
                                  try clear c29b0
                                  try clear c30
                                  try clear c30b0
                                  try clear hcz22_0
                                  try clear hcz22_1
                                  try clear hfz22_0
                                  try clear hfz22_1
                                  try clear hx110_0
                                  try clear hx111_0
                                  try clear p110
                                  try clear p111
                                  try clear p2
                                  try clear p6
                                  try clear q110
                                  try clear q111
                                  obtain ⟨kq, x11_23, rfl, HA, HJ23, HW, HO_7, BK102, HB⟩ := hcut
                                  cases kq with
                                  | zero => exact absurd HA.out (by simp [spec_raWays.j5])
                                  | succ kj23 =>
                                    have H := HA.out
                                    clear HA
                                    simp only [spec_raWays.j5] at H
                                    by_cases c32 : x26_2 > 0
                                    · rw [if_pos c32] at H
                                      have c32b0 : decide (0 < x26_2) = true := decide_eq_true c32
                                      clear c32
                                      replace H := Option.bind_eq_some_iff.mp H
                                      obtain ⟨t112, A330, H⟩ := H
                                      replace H : (if t112 = 0 then (if 0 ≤ x8_1 then (if x8_1 < (x7_2.length : Int) then (if 0 ≤ (wrap64 (x26_2 - 1)) then (if (wrap64 (x26_2 - 1)) < ((rd_L1 x7_2 x8_1).length : Int) then ((spec_l1Least.f (wrap64 (x11_23 + (rd (rd_L1 x7_2 x8_1) (wrap64 (x26_2 - 1))))) 1000000000000001).bind fun t116 => (if 0 ≤ x26_2 then (if x26_2 < ((rd_L1 x7_2 x8_1).length : Int) then (spec_raWays.l1 kj23 a1 a2 (x7_2.set (x8_1 : Int).toNat ((rd_L1 x7_2 x8_1).set (x26_2 : Int).toNat t116)) x8_1 (y103.length : Int) (wrap64 (x26_2 + 1)) a0_0 a0_1) else (none)) else (none))) else (none)) else (none)) else (none)) else (none)) else (if 0 ≤ x8_1 then (if x8_1 < (x7_2.length : Int) then ((spec_l1Least.f x11_23 1000000000000001).bind fun t121 => (if 0 ≤ x26_2 then (if x26_2 < ((rd_L1 x7_2 x8_1).length : Int) then (spec_raWays.l1 kj23 a1 a2 (x7_2.set (x8_1 : Int).toNat ((rd_L1 x7_2 x8_1).set (x26_2 : Int).toNat t121)) x8_1 (y103.length : Int) (wrap64 (x26_2 + 1)) a0_0 a0_1) else (none)) else (none))) else (none)) else (none))) = some r := H
                                      have A33 := Aside0.mk A330
                                      clear A330
                                      by_cases c34 : t112 = 0
                                      · rw [if_pos c34] at H
                                        have c34b0 : (t112 == 0) = true := beq_iff_eq.mpr c34
                                        have c34b1 : (t112 != 0) = false := bne_eq_false_iff_eq.mpr c34
                                        clear c34
                                        by_cases c35 : 0 ≤ x8_1
                                        · rw [if_pos c35] at H
                                          have c35b0 : decide (0 ≤ x8_1) = true := decide_eq_true c35
                                          clear c35
                                          by_cases c36 : x8_1 < (x7_2.length : Int)
                                          · rw [if_pos c36] at H
                                            have c36b0 : decide (x8_1 < (x7_2.length : Int)) = true := decide_eq_true c36
                                            clear c36
                                            obtain ⟨ji37, hji37⟩ : ∃ j_ : Int, (wrap64 (x26_2 - 1)) = j_ := ⟨_, rfl⟩
                                            replace H : (if 0 ≤ (ji37) then (if (ji37) < ((rd_L1 x7_2 x8_1).length : Int) then ((spec_l1Least.f (wrap64 (x11_23 + (rd (rd_L1 x7_2 x8_1) (ji37)))) 1000000000000001).bind fun t116 => (if 0 ≤ x26_2 then (if x26_2 < ((rd_L1 x7_2 x8_1).length : Int) then (spec_raWays.l1 kj23 a1 a2 (x7_2.set (x8_1 : Int).toNat ((rd_L1 x7_2 x8_1).set (x26_2 : Int).toNat t116)) x8_1 (y103.length : Int) (wrap64 (x26_2 + 1)) a0_0 a0_1) else (none)) else (none))) else (none)) else (none)) = some r := by first | (rw [hji37] at H; exact H) | (simp only [hji37] at H ⊢; exact H)
                                            (try rw [hji37] at A33)
                                            have hji37w : (IntKind.i64.wrap (x26_2 - 1)) = ji37 := (i64_w _).trans hji37
                                            by_cases c38 : 0 ≤ (ji37)
                                            · rw [if_pos c38] at H
                                              have c38b0 : decide (0 ≤ (ji37)) = true := decide_eq_true c38
                                              clear c38
                                              by_cases c39 : (ji37) < ((rd_L1 x7_2 x8_1).length : Int)
                                              · rw [if_pos c39] at H
                                                have c39b0 : decide ((ji37) < ((rd_L1 x7_2 x8_1).length : Int)) = true := decide_eq_true c39
                                                clear c39
                                                replace H := Option.bind_eq_some_iff.mp H
                                                obtain ⟨t116, A400, H⟩ := H
                                                replace H : (if 0 ≤ x26_2 then (if x26_2 < ((rd_L1 x7_2 x8_1).length : Int) then (spec_raWays.l1 kj23 a1 a2 (x7_2.set (x8_1 : Int).toNat ((rd_L1 x7_2 x8_1).set (x26_2 : Int).toNat t116)) x8_1 (y103.length : Int) (wrap64 (x26_2 + 1)) a0_0 a0_1) else (none)) else (none)) = some r := H
                                                have A40 := Aside0.mk A400
                                                clear A400
                                                by_cases c41 : 0 ≤ x26_2
                                                · rw [if_pos c41] at H
                                                  have c41b0 : decide (0 ≤ x26_2) = true := decide_eq_true c41
                                                  clear c41
                                                  by_cases c42 : x26_2 < ((rd_L1 x7_2 x8_1).length : Int)
                                                  · rw [if_pos c42] at H
                                                    have c42b0 : decide (x26_2 < ((rd_L1 x7_2 x8_1).length : Int)) = true := decide_eq_true c42
                                                    clear c42
                                                    obtain ⟨y117, hy117⟩ : ∃ y_ : List Int, y_ = ((rd_L1 x7_2 x8_1).set (x26_2 : Int).toNat t116) := ⟨_, rfl⟩
                                                    replace H : (spec_raWays.l1 kj23 a1 a2 (x7_2.set (x8_1 : Int).toNat y117) x8_1 (y103.length : Int) (wrap64 (x26_2 + 1)) a0_0 a0_1) = some r := by first | (rw [hy117]; with_reducible exact H) | (have H2_ := (Option.bind_some _ _).symm.trans H; rw [hy117]; with_reducible exact H2_) | (have H2_ := (Option.bind_some _ _).symm.trans H; with_reducible exact H2_) | with_reducible exact H | (rw [hy117]; exact H) | exact H
                                                    have Ny117 := Aside0.mk hy117
                                                    clear hy117
                                                    obtain ⟨y119, hy119⟩ : ∃ y_ : List (List Int), y_ = (x7_2.set (x8_1 : Int).toNat y117) := ⟨_, rfl⟩
                                                    replace H : (spec_raWays.l1 kj23 a1 a2 y119 x8_1 (y103.length : Int) (wrap64 (x26_2 + 1)) a0_0 a0_1) = some r := by first | (rw [hy119]; with_reducible exact H) | (have H2_ := (Option.bind_some _ _).symm.trans H; rw [hy119]; with_reducible exact H2_) | (have H2_ := (Option.bind_some _ _).symm.trans H; with_reducible exact H2_) | with_reducible exact H | (rw [hy119]; exact H) | exact H
                                                    have Ny119 := Aside0.mk hy119
                                                    clear hy119
                                                    have H' := Aside0.mk H
                                                    clear H
                                                    have hcz44_0 : wc.cell? ⟨gb102, 0, none⟩ = some (.int .i64 a0_0) := (blk_cell BK102.out 0).trans rfl
                                                    have hcz44_1 : wc.cell? ⟨gb102, 1, none⟩ = some (.int .i64 a0_1) := (blk_cell BK102.out 1).trans rfl
                                                    have hfz44_0 := blk_frozen BK102.out 0
                                                    have hfz44_1 := blk_frozen BK102.out 1
                                                    go_wp2_with (first | (go_at_call 37; (with_reducible refine (spec_raWon.calls kj23 a0_0 a0_1 x8_1 ji37 t112 _ A33.out).mono ?_); rintro e w45 ⟨rfl, hb⟩; have nW_ := Aside0.mk (RowAt.below (by (with_reducible repeat (first | refine RowAt.drewN ?_ _ | refine RowAt.drew ?_ | refine RowAt.alloc ?_ _)); exact HW.out) hb); have n0_ := Aside0.mk (Kd.S_below (by (with_reducible repeat (first | apply Kd.S_alloc | apply Kd.S_drewN | apply Kd.S_drew)); exact HO_7.out) hb); have n1_ := Aside0.mk (blk_below (g := gb102) (o := .cells #[.int .i64 a0_0, .int .i64 a0_1] 31 (0, 0)) (by (with_reducible repeat (first | refine blk_drewN ?_ _ | refine blk_drew ?_ | refine blk_alloc ?_ _)); exact BK102.out) hb); have n2_ := Aside0.mk (below_step (by repeat (first | (with_reducible first | exact HB.out | apply below_alloc | apply pw_below_drewN | apply below_drew1 | refine below_set ?_ GE102.out) | exact HB.out)) hb); clear HO_7; clear BK102; clear HB; clear HW; have HO_7 := n0_; have BK102 := n1_; have HB := n2_; have HW := nW_; clear n0_ n1_ n2_ nW_; (try clear hb); (try clear hb2); (try clear hk); (try clear hi); obtain ⟨Ao46, co46, eo46⟩ := Kd.S_slice HO_7.out; subst eo46; have p113 : 0 ≤ (x8_1 : Int) := of_decide_eq_true (by first | (with_reducible assumption) | assumption); have q113 : x8_1 < (x7_2.length : Int) := of_decide_eq_true (by first | (with_reducible assumption) | assumption); obtain ⟨ad113, A113_0, c113_0, e113, hx113_0, hl113_0, hi113_0⟩ := at_L1 (Kd.S_reads' HO_7.out).2.2 x8_1 p113 q113; cases e113; obtain ⟨ce113, hce113, hMe113, hcc113⟩ := Kd.S_get HO_7.out [] x8_1 p113 (by first | exact q113 | exact of_decide_eq_true (by first | (with_reducible assumption) | assumption) | (have e_ := (Kd.S_reads' HO_7.out).1; omega)); obtain ⟨ve113_0, rfl, ge113_0⟩ := hMe113; have hv113_0 := hcc113 0 _ rfl; rw [Nat.add_zero, show ((Kd.slice 3 (Kd.int .i64))).sz = 1 from rfl, Nat.mul_one] at hv113_0; replace hv113_0 := Option.some.inj (hv113_0.symm.trans hx113_0); rw [hv113_0] at ge113_0; have HL113_0 := Aside0.mk (show Kd.R (Kd.int .i64) 3 _ _ _ _ (rd_L1 x7_2 x8_1) from ge113_0); clear hv113_0 ge113_0; have HX113_0 := Aside0.mk hx113_0; clear hcc113 hce113; have HR113_0 := Aside0.mk hi113_0; have HC113_0 := Aside0.mk hl113_0; clear hi113_0 hl113_0; have hs_ := RowAt.same HW.out HX113_0.out (by have h1_ := HX8.out; omega); injection hs_ with ha_ hn_ hc_; subst ha_; subst hc_; have HN := Aside0.mk hn_; clear hn_; replace p113 := eq_true p113; replace q113 := eq_true q113; have p114 : 0 ≤ ((ji37) : Int) := of_decide_eq_true (by first | (with_reducible assumption) | assumption); have q114 : (ji37) < ((rd_L1 x7_2 x8_1).length : Int) := of_decide_eq_true (by first | (with_reducible assumption) | assumption); obtain ⟨ad114, e114, hx114_0⟩ := Kd.at_int (by repeat (first | (with_reducible exact HR113_0.out) | (with_reducible refine Kd.C_alloc ?_ _) | (with_reducible refine Kd.C_drewN ?_ _) | (with_reducible refine Kd.C_drew ?_) | exact HR113_0.out)) (ji37) p114 q114; cases e114; replace p114 := eq_true p114; replace q114 := eq_true q114; have q114y : ((ji37 : Int) < (y103.length : Int)) = True := (by rw [HN.out]; exact q114); have p115 : 0 ≤ (x8_1 : Int) := of_decide_eq_true (by first | (with_reducible assumption) | assumption); have q115 : x8_1 < (x7_2.length : Int) := of_decide_eq_true (by first | (with_reducible assumption) | assumption); obtain ⟨ad115, A115_0, c115_0, e115, hx115_0, hl115_0, hi115_0⟩ := at_L1 (Kd.S_reads' HO_7.out).2.2 x8_1 p115 q115; obtain rfl : ad113 = ad115 := (by injection e115); obtain ⟨ce115, hce115, hMe115, hcc115⟩ := Kd.S_get HO_7.out [] x8_1 p115 (by first | exact q115 | exact of_decide_eq_true (by first | (with_reducible assumption) | assumption) | (have e_ := (Kd.S_reads' HO_7.out).1; omega)); obtain ⟨ve115_0, rfl, ge115_0⟩ := hMe115; have hv115_0 := hcc115 0 _ rfl; rw [Nat.add_zero, show ((Kd.slice 3 (Kd.int .i64))).sz = 1 from rfl, Nat.mul_one] at hv115_0; replace hv115_0 := Option.some.inj (hv115_0.symm.trans hx115_0); rw [hv115_0] at ge115_0; have HL115_0 := Aside0.mk (show Kd.R (Kd.int .i64) 3 _ _ _ _ (rd_L1 x7_2 x8_1) from ge115_0); clear hv115_0 ge115_0; have HX115_0 := Aside0.mk hx115_0; clear hcc115 hce115; have HR115_0 := Aside0.mk hi115_0; have HC115_0 := Aside0.mk hl115_0; clear hi115_0 hl115_0; replace p115 := eq_true p115; replace q115 := eq_true q115; have ea_ := Option.some.inj (hx113_0.symm.trans hx115_0); injection ea_ with ea_ en_ ec_; subst ea_; subst ec_; clear en_) | ((with_reducible refine gate_callee (f := 51) rfl ?_); refine goesL_ (some 75) rfl rfl Try.func51 (by kernel_rfl) rfl #[.int .i64 (wrap64 (x11_23 + (rd (rd_L1 x7_2 x8_1) (ji37)))), .int .i64 1000000000000001] rfl (by (try simp only [List.map_toArray, List.map_cons, List.map_nil]); first | done | (simp only [hji37]; rfl) | rfl | (simp only [List.length_drop, List.length_take]; rfl)) ?_; (with_reducible refine (spec_l1Least.calls (wrap64 (x11_23 + (rd (rd_L1 x7_2 x8_1) (ji37)))) 1000000000000001 t116 _ A40.out).mono ?_); rintro e w' ⟨rfl, ⟨nd, rfl⟩⟩; refine ⟨_, rfl, ?_⟩; (try (rw [drewN_self w45]; generalize hq_ : World.drewN w45 _ = w45; have nW_ : Aside0 (RowAt 52 w45 (.slice (some ad113) x7_2.length co46) x7_1.length (.slice (some ad114) y103.length co13)) := ⟨by rw [← hq_]; exact (RowAt.drewN HW.out _)⟩; have nX_ : Aside0 (w45.cell? (ad113.add x8_1.toNat) = some (.slice (some ad114) (rd_L1 x7_2 x8_1).length co13)) := ⟨by rw [← hq_]; exact HX115_0.out⟩; have n0_ : Aside0 (Kd.R (Kd.int .i64) 3 w45 w.heap.size (fun k_ => some k_ ≠ (.slice (some ad113) x7_2.length co46 : Value).ownBlock) (.slice (some ad114) (rd_L1 x7_2 x8_1).length co13) (rd_L1 x7_2 x8_1)) := ⟨by rw [← hq_]; exact (by (with_reducible repeat (first | apply Kd.R_alloc | apply Kd.R_drewN | apply Kd.R_drew)); exact Kd.R_mono HL113_0.out (fun _ hk => hk.2))⟩; have n1_ : Aside0 (Kd.R (Kd.int .i64) 3 w45 w.heap.size (fun k_ => some k_ ≠ (.slice (some ad113) x7_2.length co46 : Value).ownBlock) (.slice (some ad114) (rd_L1 x7_2 x8_1).length co13) (rd_L1 x7_2 x8_1)) := ⟨by rw [← hq_]; exact (by (with_reducible repeat (first | apply Kd.R_alloc | apply Kd.R_drewN | apply Kd.R_drew)); exact Kd.R_mono HL115_0.out (fun _ hk => hk.2))⟩; have n2_ : Aside0 (Kd.S (Kd.slice 3 (Kd.int .i64)) 52 w45 w.heap.size (fun _ => True) (.slice (some ad113) x7_2.length co46) x7_2) := ⟨by rw [← hq_]; exact (by (with_reducible repeat (first | apply Kd.S_alloc | apply Kd.S_drewN | apply Kd.S_drew)); exact HO_7.out)⟩; have n3_ : Aside0 (w45.heap[gb102]? = some (.cells #[.int .i64 a0_0, .int .i64 a0_1] 31 (0, 0))) := ⟨by rw [← hq_]; exact (by (with_reducible repeat (first | refine blk_drewN ?_ _ | refine blk_drew ?_ | refine blk_alloc ?_ _)); exact BK102.out)⟩; have n4_ : Aside0 (Below w.heap.size w w45) := ⟨by rw [← hq_]; exact (by repeat (first | (with_reducible first | exact HB.out | apply below_alloc | apply pw_below_drewN | apply below_drew1 | refine below_set ?_ GE102.out) | exact HB.out))⟩; have n5_ : Aside0 (Kd.C (Kd.int .i64) w45 (some ad114) (rd_L1 x7_2 x8_1).length (rd_L1 x7_2 x8_1)) := ⟨by rw [← hq_]; exact (by repeat (first | (with_reducible exact HR113_0.out) | (with_reducible refine Kd.C_alloc ?_ _) | (with_reducible refine Kd.C_drewN ?_ _) | (with_reducible refine Kd.C_drew ?_) | exact HR113_0.out))⟩; have n6_ : Aside0 (Kd.C (Kd.int .i64) w45 (some ad114) (rd_L1 x7_2 x8_1).length (rd_L1 x7_2 x8_1)) := ⟨by rw [← hq_]; exact (by repeat (first | (with_reducible exact HR115_0.out) | (with_reducible refine Kd.C_alloc ?_ _) | (with_reducible refine Kd.C_drewN ?_ _) | (with_reducible refine Kd.C_drew ?_) | exact HR115_0.out))⟩; clear HL113_0 HL115_0 HO_7 BK102 HB HW HR113_0 HR115_0 hq_; clear HX115_0; have HX115_0 := nX_; have HW := nW_; have HL113_0 := n0_; have HL115_0 := n1_; have HO_7 := n2_; have BK102 := n3_; have HB := n4_; have HR113_0 := n5_; have HR115_0 := n6_; clear n0_ n1_ n2_ n3_ n4_ n5_ n6_ nW_ nX_)); have p43 : 0 ≤ (x26_2 : Int) := of_decide_eq_true (by first | (with_reducible assumption) | assumption); have q43 : (x26_2 : Int) < (((rd_L1 x7_2 x8_1).length : Int) : Int) := of_decide_eq_true (by first | (with_reducible assumption) | assumption); obtain ⟨go43, co43, eo43, gb43, gl43, cl43, HG43⟩ := Kd.R_form HL115_0.out (by omega); (first | cases eo43 | (injection eo43 with ea_ en_ ec_; (first | subst ea_ | (injection ea_ with ea_; subst ea_)); subst ec_; clear en_)); have GB43 := Aside0.mk gb43; have GG43 := Aside0.mk HG43; clear gb43 gl43 HG43; (first | simp only [add_plain] at hx114_0 | skip); obtain ⟨hx43_0, hf43_0⟩ := Kd.R_celln 0 HL115_0.out (x26_2 : Int) p43 q43; replace p43 := eq_true p43; replace q43 := eq_true q43; have q43y : ((x26_2 : Int) < (y103.length : Int)) = True := (by rw [HN.out]; exact q43); have hq47 : (x8_1 : Int) < (x7_2.length : Int) := (by have h_ : (x8_1 : Int) < ((x7_2.length : Int) : Int) := of_decide_eq_true (by first | (with_reducible assumption) | assumption); first | exact h_ | (have e_ := (Kd.S_reads' HO_7.out).1; omega) | simpa only [List.length_set, List.length_set] using h_); obtain ⟨oki47, ce47, hcl47, hM47, hcc47, hok47, hbk47⟩ := Kd.S_borrow HO_7.out [] (x8_1 : Int) (of_decide_eq_true (by first | (with_reducible assumption) | assumption)) hq47; obtain ⟨ve47_0, rfl, ge47_0⟩ := hM47; have hv47 := hcc47 0 _ rfl; rw [Nat.add_zero, show ((Kd.slice 3 (Kd.int .i64))).sz = 1 from rfl, Nat.mul_one] at hv47; replace hv47 := Option.some.inj (hv47.symm.trans HX115_0.out); subst hv47; clear hcc47 hcl47; replace ge47_0 := (show Kd.R (Kd.int .i64) 3 _ _ _ _ (rd_L1 x7_2 x8_1) from ge47_0); have HP47 := Kd.R_putg ge47_0 (x26_2 : Int) t116) | ((with_reducible refine gate_store (t := 3) (p := 76) rfl ?_); refine store_event (t := 3) (p := 76) (v := ?vo_w48) (w1 := (w45.setCell ⟨go43, (x26_2 : Int).toNat, none⟩ (.int .i64 t116))) ?hg ?ho ?hn ?hr ?_; (case ho => rfl); (case hg => rfl); (case hn => rfl); (case hr => first | (go_simp; done) | (go_simp; rfl)); intro w48 hw; have hg : w45.grownBy w48 (some go43) := (by rw [hw]; exact HP47.2); have hz_ : Kd.R (Kd.int .i64) 3 w48 w.heap.size oki47 (.slice (some ⟨go43, 0, none⟩) (rd_L1 x7_2 x8_1).length co13) y117 := (by rw [hw, Ny117.out]; exact HP47.1); have hp_ : Kd.S (Kd.slice 3 (Kd.int .i64)) 52 w48 w.heap.size (fun _ => True) (.slice (some ad113) x7_2.length co46) y119 := (by rw [Ny119.out]; exact hbk47 hg (fun k_ e_ => by injection e_ with e_; subst e_; exact ge47_0.1 _ rfl) (Kd.M_row hz_)); have hm_ := Kd.R_mono hz_ hok47; clear HP47 hbk47; have nW_ := Aside0.mk (RowAt.grown HW.out hg ⟨_, GG43.out⟩ (by decide : (52 : Nat) ≠ 3)); clear HW; have HW := nW_; clear nW_; have n0_ := Aside0.mk (hp_); have n1_ := Aside0.mk (blk_grown (g := gb102) (o := .cells #[.int .i64 a0_0, .int .i64 a0_1] 31 (0, 0)) (by (with_reducible repeat (first | refine blk_drewN ?_ _ | refine blk_drew ?_ | refine blk_alloc ?_ _)); exact BK102.out) hg (Kd.R_ne HL115_0.out BK102.out (by decide))); have n2_ := Aside0.mk ((by rw [hw]; exact below_set (HB.out) GB43.out : Below w.heap.size w w48)); have n3_ := Aside0.mk (hm_); have n4_ := Aside0.mk ((Kd.R_reads' hm_).2.1); clear HO_7; clear BK102; clear HB; clear HL113_0; clear HL115_0; have HO_7 := n0_; have BK102 := n1_; have HB := n2_; have HL130 := n3_; have HC118 := n4_; clear n0_ n1_ n2_ n3_ n4_; clear hg hw hp_ hz_ hm_ hok47))
                                                    go_roundg kj23
                                                    case measure => have := HK1.out; have := HK2.out; have := HJ14.out; have := HJ16.out; have := HJ18.out; have := HJ23.out; omega
                                                    case rel => exact ⟨(y119), (wrap64 (x26_2 + 1)), (by first | rfl | (simp; done) | (simp [*]; done)), H', ⟨by have := HK1.out; have := HK2.out; have := HJ14.out; have := HJ16.out; have := HJ18.out; have := HJ23.out; omega⟩, ⟨by rw [Ny119.out, List.length_set]; exact HL2.out⟩, ⟨by (with_reducible repeat (first | refine RowAt.drewN ?_ _ | refine RowAt.drew ?_ | refine RowAt.alloc ?_ _)); exact HW.out⟩, ⟨by (with_reducible repeat (first | apply Kd.S_alloc | apply Kd.S_drewN | apply Kd.S_drew)); exact HO_7.out⟩, ⟨by (with_reducible repeat (first | refine blk_drewN ?_ _ | refine blk_drew ?_ | refine blk_alloc ?_ _)); exact BK102.out⟩, ⟨by repeat (first | (with_reducible first | exact HB.out | apply below_alloc | apply pw_below_drewN | apply below_drew1 | refine below_set ?_ GE102.out) | exact HB.out)⟩⟩
                                                  · rw [if_neg c42] at H
                                                    exact absurd H (by simp)
                                                · rw [if_neg c41] at H
                                                  exact absurd H (by simp)
                                              · rw [if_neg c39] at H
                                                exact absurd H (by simp)
                                            · rw [if_neg c38] at H
                                              exact absurd H (by simp)
                                          · rw [if_neg c36] at H
                                            exact absurd H (by simp)
                                        · rw [if_neg c35] at H
                                          exact absurd H (by simp)
                                      · rw [if_neg c34] at H
                                        have c34b0 : (t112 == 0) = false := beq_eq_false_iff_ne.mpr c34
                                        have c34b1 : (t112 != 0) = true := bne_iff_ne.mpr c34
                                        by_cases c49 : 0 ≤ x8_1
                                        · rw [if_pos c49] at H
                                          have c49b0 : decide (0 ≤ x8_1) = true := decide_eq_true c49
                                          clear c49
                                          by_cases c50 : x8_1 < (x7_2.length : Int)
                                          · rw [if_pos c50] at H
                                            have c50b0 : decide (x8_1 < (x7_2.length : Int)) = true := decide_eq_true c50
                                            clear c50
                                            replace H := Option.bind_eq_some_iff.mp H
                                            obtain ⟨t121, A510, H⟩ := H
                                            replace H : (if 0 ≤ x26_2 then (if x26_2 < ((rd_L1 x7_2 x8_1).length : Int) then (spec_raWays.l1 kj23 a1 a2 (x7_2.set (x8_1 : Int).toNat ((rd_L1 x7_2 x8_1).set (x26_2 : Int).toNat t121)) x8_1 (y103.length : Int) (wrap64 (x26_2 + 1)) a0_0 a0_1) else (none)) else (none)) = some r := H
                                            have A51 := Aside0.mk A510
                                            clear A510
                                            by_cases c52 : 0 ≤ x26_2
                                            · rw [if_pos c52] at H
                                              have c52b0 : decide (0 ≤ x26_2) = true := decide_eq_true c52
                                              clear c52
                                              by_cases c53 : x26_2 < ((rd_L1 x7_2 x8_1).length : Int)
                                              · rw [if_pos c53] at H
                                                have c53b0 : decide (x26_2 < ((rd_L1 x7_2 x8_1).length : Int)) = true := decide_eq_true c53
                                                clear c53
                                                obtain ⟨y122, hy122⟩ : ∃ y_ : List Int, y_ = ((rd_L1 x7_2 x8_1).set (x26_2 : Int).toNat t121) := ⟨_, rfl⟩
                                                replace H : (spec_raWays.l1 kj23 a1 a2 (x7_2.set (x8_1 : Int).toNat y122) x8_1 (y103.length : Int) (wrap64 (x26_2 + 1)) a0_0 a0_1) = some r := by first | (rw [hy122]; with_reducible exact H) | (have H2_ := (Option.bind_some _ _).symm.trans H; rw [hy122]; with_reducible exact H2_) | (have H2_ := (Option.bind_some _ _).symm.trans H; with_reducible exact H2_) | with_reducible exact H | (rw [hy122]; exact H) | exact H
                                                have Ny122 := Aside0.mk hy122
                                                clear hy122
                                                obtain ⟨y124, hy124⟩ : ∃ y_ : List (List Int), y_ = (x7_2.set (x8_1 : Int).toNat y122) := ⟨_, rfl⟩
                                                replace H : (spec_raWays.l1 kj23 a1 a2 y124 x8_1 (y103.length : Int) (wrap64 (x26_2 + 1)) a0_0 a0_1) = some r := by first | (rw [hy124]; with_reducible exact H) | (have H2_ := (Option.bind_some _ _).symm.trans H; rw [hy124]; with_reducible exact H2_) | (have H2_ := (Option.bind_some _ _).symm.trans H; with_reducible exact H2_) | with_reducible exact H | (rw [hy124]; exact H) | exact H
                                                have Ny124 := Aside0.mk hy124
                                                clear hy124
                                                have H' := Aside0.mk H
                                                clear H
                                                have hcz55_0 : wc.cell? ⟨gb102, 0, none⟩ = some (.int .i64 a0_0) := (blk_cell BK102.out 0).trans rfl
                                                have hcz55_1 : wc.cell? ⟨gb102, 1, none⟩ = some (.int .i64 a0_1) := (blk_cell BK102.out 1).trans rfl
                                                have hfz55_0 := blk_frozen BK102.out 0
                                                have hfz55_1 := blk_frozen BK102.out 1
                                                go_wp2_with (first | (go_at_call 37; (with_reducible refine (spec_raWon.calls kj23 a0_0 a0_1 x8_1 (wrap64 (x26_2 - 1)) t112 _ A33.out).mono ?_); rintro e w56 ⟨rfl, hb⟩; have nW_ := Aside0.mk (RowAt.below (by (with_reducible repeat (first | refine RowAt.drewN ?_ _ | refine RowAt.drew ?_ | refine RowAt.alloc ?_ _)); exact HW.out) hb); have n0_ := Aside0.mk (Kd.S_below (by (with_reducible repeat (first | apply Kd.S_alloc | apply Kd.S_drewN | apply Kd.S_drew)); exact HO_7.out) hb); have n1_ := Aside0.mk (blk_below (g := gb102) (o := .cells #[.int .i64 a0_0, .int .i64 a0_1] 31 (0, 0)) (by (with_reducible repeat (first | refine blk_drewN ?_ _ | refine blk_drew ?_ | refine blk_alloc ?_ _)); exact BK102.out) hb); have n2_ := Aside0.mk (below_step (by repeat (first | (with_reducible first | exact HB.out | apply below_alloc | apply pw_below_drewN | apply below_drew1 | refine below_set ?_ GE102.out) | exact HB.out)) hb); clear HO_7; clear BK102; clear HB; clear HW; have HO_7 := n0_; have BK102 := n1_; have HB := n2_; have HW := nW_; clear n0_ n1_ n2_ nW_; (try clear hb); (try clear hb2); (try clear hk); (try clear hi); obtain ⟨Ao57, co57, eo57⟩ := Kd.S_slice HO_7.out; subst eo57; have p120 : 0 ≤ (x8_1 : Int) := of_decide_eq_true (by first | (with_reducible assumption) | assumption); have q120 : x8_1 < (x7_2.length : Int) := of_decide_eq_true (by first | (with_reducible assumption) | assumption); obtain ⟨ad120, A120_0, c120_0, e120, hx120_0, hl120_0, hi120_0⟩ := at_L1 (Kd.S_reads' HO_7.out).2.2 x8_1 p120 q120; cases e120; obtain ⟨ce120, hce120, hMe120, hcc120⟩ := Kd.S_get HO_7.out [] x8_1 p120 (by first | exact q120 | exact of_decide_eq_true (by first | (with_reducible assumption) | assumption) | (have e_ := (Kd.S_reads' HO_7.out).1; omega)); obtain ⟨ve120_0, rfl, ge120_0⟩ := hMe120; have hv120_0 := hcc120 0 _ rfl; rw [Nat.add_zero, show ((Kd.slice 3 (Kd.int .i64))).sz = 1 from rfl, Nat.mul_one] at hv120_0; replace hv120_0 := Option.some.inj (hv120_0.symm.trans hx120_0); rw [hv120_0] at ge120_0; have HL120_0 := Aside0.mk (show Kd.R (Kd.int .i64) 3 _ _ _ _ (rd_L1 x7_2 x8_1) from ge120_0); clear hv120_0 ge120_0; have HX120_0 := Aside0.mk hx120_0; clear hcc120 hce120; have HR120_0 := Aside0.mk hi120_0; have HC120_0 := Aside0.mk hl120_0; clear hi120_0 hl120_0; have hs_ := RowAt.same HW.out HX120_0.out (by have h1_ := HX8.out; omega); injection hs_ with ha_ hn_ hc_; subst ha_; subst hc_; have HN := Aside0.mk hn_; clear hn_; replace p120 := eq_true p120; replace q120 := eq_true q120) | ((with_reducible refine gate_callee (f := 51) rfl ?_); refine goesL_ (some 75) rfl rfl Try.func51 (by kernel_rfl) rfl #[.int .i64 x11_23, .int .i64 1000000000000001] rfl (by (try simp only [List.map_toArray, List.map_cons, List.map_nil]); first | done | rfl | (simp only [List.length_drop, List.length_take]; rfl)) ?_; (with_reducible refine (spec_l1Least.calls x11_23 1000000000000001 t121 _ A51.out).mono ?_); rintro e w' ⟨rfl, ⟨nd, rfl⟩⟩; refine ⟨_, rfl, ?_⟩; (try (rw [drewN_self w56]; generalize hq_ : World.drewN w56 _ = w56; have nW_ : Aside0 (RowAt 52 w56 (.slice (some ad120) x7_2.length co57) x7_1.length (.slice Ao13 y103.length co13)) := ⟨by rw [← hq_]; exact (RowAt.drewN HW.out _)⟩; have nX_ : Aside0 (w56.cell? (ad120.add x8_1.toNat) = some (.slice Ao13 (rd_L1 x7_2 x8_1).length co13)) := ⟨by rw [← hq_]; exact HX120_0.out⟩; have n0_ : Aside0 (Kd.R (Kd.int .i64) 3 w56 w.heap.size (fun k_ => some k_ ≠ (.slice (some ad120) x7_2.length co57 : Value).ownBlock) (.slice Ao13 (rd_L1 x7_2 x8_1).length co13) (rd_L1 x7_2 x8_1)) := ⟨by rw [← hq_]; exact (by (with_reducible repeat (first | apply Kd.R_alloc | apply Kd.R_drewN | apply Kd.R_drew)); exact Kd.R_mono HL120_0.out (fun _ hk => hk.2))⟩; have n1_ : Aside0 (Kd.S (Kd.slice 3 (Kd.int .i64)) 52 w56 w.heap.size (fun _ => True) (.slice (some ad120) x7_2.length co57) x7_2) := ⟨by rw [← hq_]; exact (by (with_reducible repeat (first | apply Kd.S_alloc | apply Kd.S_drewN | apply Kd.S_drew)); exact HO_7.out)⟩; have n2_ : Aside0 (w56.heap[gb102]? = some (.cells #[.int .i64 a0_0, .int .i64 a0_1] 31 (0, 0))) := ⟨by rw [← hq_]; exact (by (with_reducible repeat (first | refine blk_drewN ?_ _ | refine blk_drew ?_ | refine blk_alloc ?_ _)); exact BK102.out)⟩; have n3_ : Aside0 (Below w.heap.size w w56) := ⟨by rw [← hq_]; exact (by repeat (first | (with_reducible first | exact HB.out | apply below_alloc | apply pw_below_drewN | apply below_drew1 | refine below_set ?_ GE102.out) | exact HB.out))⟩; have n4_ : Aside0 (Kd.C (Kd.int .i64) w56 Ao13 (rd_L1 x7_2 x8_1).length (rd_L1 x7_2 x8_1)) := ⟨by rw [← hq_]; exact (by repeat (first | (with_reducible exact HR120_0.out) | (with_reducible refine Kd.C_alloc ?_ _) | (with_reducible refine Kd.C_drewN ?_ _) | (with_reducible refine Kd.C_drew ?_) | exact HR120_0.out))⟩; clear HL120_0 HO_7 BK102 HB HW HR120_0 hq_; clear HX120_0; have HX120_0 := nX_; have HW := nW_; have HL120_0 := n0_; have HO_7 := n1_; have BK102 := n2_; have HB := n3_; have HR120_0 := n4_; clear n0_ n1_ n2_ n3_ n4_ nW_ nX_)); have p54 : 0 ≤ (x26_2 : Int) := of_decide_eq_true (by first | (with_reducible assumption) | assumption); have q54 : (x26_2 : Int) < (((rd_L1 x7_2 x8_1).length : Int) : Int) := of_decide_eq_true (by first | (with_reducible assumption) | assumption); obtain ⟨go54, co54, eo54, gb54, gl54, cl54, HG54⟩ := Kd.R_form HL120_0.out (by omega); (first | cases eo54 | (injection eo54 with ea_ en_ ec_; (first | subst ea_ | (injection ea_ with ea_; subst ea_)); subst ec_; clear en_)); have GB54 := Aside0.mk gb54; have GG54 := Aside0.mk HG54; clear gb54 gl54 HG54; obtain ⟨hx54_0, hf54_0⟩ := Kd.R_celln 0 HL120_0.out (x26_2 : Int) p54 q54; replace p54 := eq_true p54; replace q54 := eq_true q54; have q54y : ((x26_2 : Int) < (y103.length : Int)) = True := (by rw [HN.out]; exact q54); have hq58 : (x8_1 : Int) < (x7_2.length : Int) := (by have h_ : (x8_1 : Int) < ((x7_2.length : Int) : Int) := of_decide_eq_true (by first | (with_reducible assumption) | assumption); first | exact h_ | (have e_ := (Kd.S_reads' HO_7.out).1; omega) | simpa only [List.length_set, List.length_set] using h_); obtain ⟨oki58, ce58, hcl58, hM58, hcc58, hok58, hbk58⟩ := Kd.S_borrow HO_7.out [] (x8_1 : Int) (of_decide_eq_true (by first | (with_reducible assumption) | assumption)) hq58; obtain ⟨ve58_0, rfl, ge58_0⟩ := hM58; have hv58 := hcc58 0 _ rfl; rw [Nat.add_zero, show ((Kd.slice 3 (Kd.int .i64))).sz = 1 from rfl, Nat.mul_one] at hv58; replace hv58 := Option.some.inj (hv58.symm.trans HX120_0.out); subst hv58; clear hcc58 hcl58; replace ge58_0 := (show Kd.R (Kd.int .i64) 3 _ _ _ _ (rd_L1 x7_2 x8_1) from ge58_0); have HP58 := Kd.R_putg ge58_0 (x26_2 : Int) t121) | ((with_reducible refine gate_store (t := 3) (p := 76) rfl ?_); refine store_event (t := 3) (p := 76) (v := ?vo_w59) (w1 := (w56.setCell ⟨go54, (x26_2 : Int).toNat, none⟩ (.int .i64 t121))) ?hg ?ho ?hn ?hr ?_; (case ho => rfl); (case hg => rfl); (case hn => rfl); (case hr => first | (go_simp; done) | (go_simp; rfl)); intro w59 hw; have hg : w56.grownBy w59 (some go54) := (by rw [hw]; exact HP58.2); have hz_ : Kd.R (Kd.int .i64) 3 w59 w.heap.size oki58 (.slice (some ⟨go54, 0, none⟩) (rd_L1 x7_2 x8_1).length co13) y122 := (by rw [hw, Ny122.out]; exact HP58.1); have hp_ : Kd.S (Kd.slice 3 (Kd.int .i64)) 52 w59 w.heap.size (fun _ => True) (.slice (some ad120) x7_2.length co57) y124 := (by rw [Ny124.out]; exact hbk58 hg (fun k_ e_ => by injection e_ with e_; subst e_; exact ge58_0.1 _ rfl) (Kd.M_row hz_)); have hm_ := Kd.R_mono hz_ hok58; clear HP58 hbk58; have nW_ := Aside0.mk (RowAt.grown HW.out hg ⟨_, GG54.out⟩ (by decide : (52 : Nat) ≠ 3)); clear HW; have HW := nW_; clear nW_; have n0_ := Aside0.mk (hp_); have n1_ := Aside0.mk (blk_grown (g := gb102) (o := .cells #[.int .i64 a0_0, .int .i64 a0_1] 31 (0, 0)) (by (with_reducible repeat (first | refine blk_drewN ?_ _ | refine blk_drew ?_ | refine blk_alloc ?_ _)); exact BK102.out) hg (Kd.R_ne HL120_0.out BK102.out (by decide))); have n2_ := Aside0.mk ((by rw [hw]; exact below_set (HB.out) GB54.out : Below w.heap.size w w59)); have n3_ := Aside0.mk (hm_); have n4_ := Aside0.mk ((Kd.R_reads' hm_).2.1); clear HO_7; clear BK102; clear HB; clear HL120_0; have HO_7 := n0_; have BK102 := n1_; have HB := n2_; have HL131 := n3_; have HC123 := n4_; clear n0_ n1_ n2_ n3_ n4_; clear hg hw hp_ hz_ hm_ hok58))
                                                go_roundg kj23
                                                case measure => have := HK1.out; have := HK2.out; have := HJ14.out; have := HJ16.out; have := HJ18.out; have := HJ23.out; omega
                                                case rel => exact ⟨(y124), (wrap64 (x26_2 + 1)), (by first | rfl | (simp; done) | (simp [*]; done)), H', ⟨by have := HK1.out; have := HK2.out; have := HJ14.out; have := HJ16.out; have := HJ18.out; have := HJ23.out; omega⟩, ⟨by rw [Ny124.out, List.length_set]; exact HL2.out⟩, ⟨by (with_reducible repeat (first | refine RowAt.drewN ?_ _ | refine RowAt.drew ?_ | refine RowAt.alloc ?_ _)); exact HW.out⟩, ⟨by (with_reducible repeat (first | apply Kd.S_alloc | apply Kd.S_drewN | apply Kd.S_drew)); exact HO_7.out⟩, ⟨by (with_reducible repeat (first | refine blk_drewN ?_ _ | refine blk_drew ?_ | refine blk_alloc ?_ _)); exact BK102.out⟩, ⟨by repeat (first | (with_reducible first | exact HB.out | apply below_alloc | apply pw_below_drewN | apply below_drew1 | refine below_set ?_ GE102.out) | exact HB.out)⟩⟩
                                              · rw [if_neg c53] at H
                                                exact absurd H (by simp)
                                            · rw [if_neg c52] at H
                                              exact absurd H (by simp)
                                          · rw [if_neg c50] at H
                                            exact absurd H (by simp)
                                        · rw [if_neg c49] at H
                                          exact absurd H (by simp)
                                    · rw [if_neg c32] at H
                                      have c32b0 : decide (0 < x26_2) = false := decide_eq_false c32
                                      clear c32
                                      by_cases c60 : 0 ≤ x8_1
                                      · rw [if_pos c60] at H
                                        have c60b0 : decide (0 ≤ x8_1) = true := decide_eq_true c60
                                        clear c60
                                        by_cases c61 : x8_1 < (x7_2.length : Int)
                                        · rw [if_pos c61] at H
                                          have c61b0 : decide (x8_1 < (x7_2.length : Int)) = true := decide_eq_true c61
                                          clear c61
                                          replace H := Option.bind_eq_some_iff.mp H
                                          obtain ⟨t126, A620, H⟩ := H
                                          replace H : (if 0 ≤ x26_2 then (if x26_2 < ((rd_L1 x7_2 x8_1).length : Int) then (spec_raWays.l1 kj23 a1 a2 (x7_2.set (x8_1 : Int).toNat ((rd_L1 x7_2 x8_1).set (x26_2 : Int).toNat t126)) x8_1 (y103.length : Int) (wrap64 (x26_2 + 1)) a0_0 a0_1) else (none)) else (none)) = some r := H
                                          have A62 := Aside0.mk A620
                                          clear A620
                                          by_cases c63 : 0 ≤ x26_2
                                          · rw [if_pos c63] at H
                                            have c63b0 : decide (0 ≤ x26_2) = true := decide_eq_true c63
                                            clear c63
                                            by_cases c64 : x26_2 < ((rd_L1 x7_2 x8_1).length : Int)
                                            · rw [if_pos c64] at H
                                              have c64b0 : decide (x26_2 < ((rd_L1 x7_2 x8_1).length : Int)) = true := decide_eq_true c64
                                              clear c64
                                              obtain ⟨y127, hy127⟩ : ∃ y_ : List Int, y_ = ((rd_L1 x7_2 x8_1).set (x26_2 : Int).toNat t126) := ⟨_, rfl⟩
                                              replace H : (spec_raWays.l1 kj23 a1 a2 (x7_2.set (x8_1 : Int).toNat y127) x8_1 (y103.length : Int) (wrap64 (x26_2 + 1)) a0_0 a0_1) = some r := by first | (rw [hy127]; with_reducible exact H) | (have H2_ := (Option.bind_some _ _).symm.trans H; rw [hy127]; with_reducible exact H2_) | (have H2_ := (Option.bind_some _ _).symm.trans H; with_reducible exact H2_) | with_reducible exact H | (rw [hy127]; exact H) | exact H
                                              have Ny127 := Aside0.mk hy127
                                              clear hy127
                                              obtain ⟨y129, hy129⟩ : ∃ y_ : List (List Int), y_ = (x7_2.set (x8_1 : Int).toNat y127) := ⟨_, rfl⟩
                                              replace H : (spec_raWays.l1 kj23 a1 a2 y129 x8_1 (y103.length : Int) (wrap64 (x26_2 + 1)) a0_0 a0_1) = some r := by first | (rw [hy129]; with_reducible exact H) | (have H2_ := (Option.bind_some _ _).symm.trans H; rw [hy129]; with_reducible exact H2_) | (have H2_ := (Option.bind_some _ _).symm.trans H; with_reducible exact H2_) | with_reducible exact H | (rw [hy129]; exact H) | exact H
                                              have Ny129 := Aside0.mk hy129
                                              clear hy129
                                              have H' := Aside0.mk H
                                              clear H
                                              obtain ⟨Ao66, co66, eo66⟩ := Kd.S_slice HO_7.out
                                              subst eo66
                                              have p125 : 0 ≤ (x8_1 : Int) := of_decide_eq_true (by first | (with_reducible assumption) | assumption)
                                              have q125 : x8_1 < (x7_2.length : Int) := of_decide_eq_true (by first | (with_reducible assumption) | assumption)
                                              obtain ⟨ad125, A125_0, c125_0, e125, hx125_0, hl125_0, hi125_0⟩ := at_L1 (Kd.S_reads' HO_7.out).2.2 x8_1 p125 q125
                                              cases e125
                                              obtain ⟨ce125, hce125, hMe125, hcc125⟩ := Kd.S_get HO_7.out [] x8_1 p125 (by first | exact q125 | exact of_decide_eq_true (by first | (with_reducible assumption) | assumption) | (have e_ := (Kd.S_reads' HO_7.out).1; omega))
                                              obtain ⟨ve125_0, rfl, ge125_0⟩ := hMe125
                                              have hv125_0 := hcc125 0 _ rfl
                                              rw [Nat.add_zero, show ((Kd.slice 3 (Kd.int .i64))).sz = 1 from rfl, Nat.mul_one] at hv125_0
                                              replace hv125_0 := Option.some.inj (hv125_0.symm.trans hx125_0)
                                              rw [hv125_0] at ge125_0
                                              have HL125_0 := Aside0.mk (show Kd.R (Kd.int .i64) 3 _ _ _ _ (rd_L1 x7_2 x8_1) from ge125_0)
                                              clear hv125_0 ge125_0
                                              have HX125_0 := Aside0.mk hx125_0
                                              clear hcc125 hce125
                                              have HR125_0 := Aside0.mk hi125_0
                                              have HC125_0 := Aside0.mk hl125_0
                                              clear hi125_0 hl125_0
                                              have hx_ : x8_1.toNat = x7_1.length := by (have h1_ := HX8.out; omega)
                                              have hs_ := RowAt.same HW.out HX125_0.out hx_
                                              injection hs_ with ha_ hn_ hc_
                                              subst ha_
                                              subst hc_
                                              have HN := Aside0.mk hn_
                                              clear hn_
                                              clear hx_
                                              replace p125 := eq_true p125
                                              replace q125 := eq_true q125
                                              go_wp2_with (first | ((with_reducible refine gate_callee (f := 51) rfl ?_); refine goesL_ (some 75) rfl rfl Try.func51 (by kernel_rfl) rfl #[.int .i64 x11_23, .int .i64 1000000000000001] rfl (by (try simp only [List.map_toArray, List.map_cons, List.map_nil]); first | done | rfl | (simp only [List.length_drop, List.length_take]; rfl)) ?_; (with_reducible refine (spec_l1Least.calls x11_23 1000000000000001 t126 _ A62.out).mono ?_); rintro e w' ⟨rfl, ⟨nd, rfl⟩⟩; refine ⟨_, rfl, ?_⟩; (try (rw [drewN_self wc]; generalize hq_ : World.drewN wc _ = wc; have nW_ : Aside0 (RowAt 52 wc (.slice (some ad125) x7_2.length co66) x7_1.length (.slice Ao13 y103.length co13)) := ⟨by rw [← hq_]; exact (RowAt.drewN HW.out _)⟩; have nX_ : Aside0 (wc.cell? (ad125.add x8_1.toNat) = some (.slice Ao13 (rd_L1 x7_2 x8_1).length co13)) := ⟨by rw [← hq_]; exact HX125_0.out⟩; have n0_ : Aside0 (Kd.R (Kd.int .i64) 3 wc w.heap.size (fun k_ => some k_ ≠ (.slice (some ad125) x7_2.length co66 : Value).ownBlock) (.slice Ao13 (rd_L1 x7_2 x8_1).length co13) (rd_L1 x7_2 x8_1)) := ⟨by rw [← hq_]; exact (by (with_reducible repeat (first | apply Kd.R_alloc | apply Kd.R_drewN | apply Kd.R_drew)); exact Kd.R_mono HL125_0.out (fun _ hk => hk.2))⟩; have n1_ : Aside0 (Kd.S (Kd.slice 3 (Kd.int .i64)) 52 wc w.heap.size (fun _ => True) (.slice (some ad125) x7_2.length co66) x7_2) := ⟨by rw [← hq_]; exact (by (with_reducible repeat (first | apply Kd.S_alloc | apply Kd.S_drewN | apply Kd.S_drew)); exact HO_7.out)⟩; have n2_ : Aside0 (wc.heap[gb102]? = some (.cells #[.int .i64 a0_0, .int .i64 a0_1] 31 (0, 0))) := ⟨by rw [← hq_]; exact (by (with_reducible repeat (first | refine blk_drewN ?_ _ | refine blk_drew ?_ | refine blk_alloc ?_ _)); exact BK102.out)⟩; have n3_ : Aside0 (Below w.heap.size w wc) := ⟨by rw [← hq_]; exact (by repeat (first | (with_reducible first | exact HB.out | apply below_alloc | apply pw_below_drewN | apply below_drew1 | refine below_set ?_ GE102.out) | exact HB.out))⟩; have n4_ : Aside0 (Kd.C (Kd.int .i64) wc Ao13 (rd_L1 x7_2 x8_1).length (rd_L1 x7_2 x8_1)) := ⟨by rw [← hq_]; exact (by repeat (first | (with_reducible exact HR125_0.out) | (with_reducible refine Kd.C_alloc ?_ _) | (with_reducible refine Kd.C_drewN ?_ _) | (with_reducible refine Kd.C_drew ?_) | exact HR125_0.out))⟩; clear HL125_0 HO_7 BK102 HB HW HR125_0 hq_; clear HX125_0; have HX125_0 := nX_; have HW := nW_; have HL125_0 := n0_; have HO_7 := n1_; have BK102 := n2_; have HB := n3_; have HR125_0 := n4_; clear n0_ n1_ n2_ n3_ n4_ nW_ nX_)); have p65 : 0 ≤ (x26_2 : Int) := of_decide_eq_true (by first | (with_reducible assumption) | assumption); have q65 : (x26_2 : Int) < (((rd_L1 x7_2 x8_1).length : Int) : Int) := of_decide_eq_true (by first | (with_reducible assumption) | assumption); obtain ⟨go65, co65, eo65, gb65, gl65, cl65, HG65⟩ := Kd.R_form HL125_0.out (by omega); (first | cases eo65 | (injection eo65 with ea_ en_ ec_; (first | subst ea_ | (injection ea_ with ea_; subst ea_)); subst ec_; clear en_)); have GB65 := Aside0.mk gb65; have GG65 := Aside0.mk HG65; clear gb65 gl65 HG65; obtain ⟨hx65_0, hf65_0⟩ := Kd.R_celln 0 HL125_0.out (x26_2 : Int) p65 q65; replace p65 := eq_true p65; replace q65 := eq_true q65; have q65y : ((x26_2 : Int) < (y103.length : Int)) = True := (by rw [HN.out]; exact q65); have hq67 : (x8_1 : Int) < (x7_2.length : Int) := (by have h_ : (x8_1 : Int) < ((x7_2.length : Int) : Int) := of_decide_eq_true (by first | (with_reducible assumption) | assumption); first | exact h_ | (have e_ := (Kd.S_reads' HO_7.out).1; omega) | simpa only [List.length_set, List.length_set] using h_); obtain ⟨oki67, ce67, hcl67, hM67, hcc67, hok67, hbk67⟩ := Kd.S_borrow HO_7.out [] (x8_1 : Int) (of_decide_eq_true (by first | (with_reducible assumption) | assumption)) hq67; obtain ⟨ve67_0, rfl, ge67_0⟩ := hM67; have hv67 := hcc67 0 _ rfl; rw [Nat.add_zero, show ((Kd.slice 3 (Kd.int .i64))).sz = 1 from rfl, Nat.mul_one] at hv67; replace hv67 := Option.some.inj (hv67.symm.trans HX125_0.out); subst hv67; clear hcc67 hcl67; replace ge67_0 := (show Kd.R (Kd.int .i64) 3 _ _ _ _ (rd_L1 x7_2 x8_1) from ge67_0); have HP67 := Kd.R_putg ge67_0 (x26_2 : Int) t126) | ((with_reducible refine gate_store (t := 3) (p := 76) rfl ?_); refine store_event (t := 3) (p := 76) (v := ?vo_w68) (w1 := (wc.setCell ⟨go65, (x26_2 : Int).toNat, none⟩ (.int .i64 t126))) ?hg ?ho ?hn ?hr ?_; (case ho => rfl); (case hg => rfl); (case hn => rfl); (case hr => first | (go_simp; done) | (go_simp; rfl)); intro w68 hw; have hg : wc.grownBy w68 (some go65) := (by rw [hw]; exact HP67.2); have hz_ : Kd.R (Kd.int .i64) 3 w68 w.heap.size oki67 (.slice (some ⟨go65, 0, none⟩) (rd_L1 x7_2 x8_1).length co13) y127 := (by rw [hw, Ny127.out]; exact HP67.1); have hp_ : Kd.S (Kd.slice 3 (Kd.int .i64)) 52 w68 w.heap.size (fun _ => True) (.slice (some ad125) x7_2.length co66) y129 := (by rw [Ny129.out]; exact hbk67 hg (fun k_ e_ => by injection e_ with e_; subst e_; exact ge67_0.1 _ rfl) (Kd.M_row hz_)); have hm_ := Kd.R_mono hz_ hok67; clear HP67 hbk67; have nW_ := Aside0.mk (RowAt.grown HW.out hg ⟨_, GG65.out⟩ (by decide : (52 : Nat) ≠ 3)); clear HW; have HW := nW_; clear nW_; have n0_ := Aside0.mk (hp_); have n1_ := Aside0.mk (blk_grown (g := gb102) (o := .cells #[.int .i64 a0_0, .int .i64 a0_1] 31 (0, 0)) (by (with_reducible repeat (first | refine blk_drewN ?_ _ | refine blk_drew ?_ | refine blk_alloc ?_ _)); exact BK102.out) hg (Kd.R_ne HL125_0.out BK102.out (by decide))); have n2_ := Aside0.mk ((by rw [hw]; exact below_set (HB.out) GB65.out : Below w.heap.size w w68)); have n3_ := Aside0.mk (hm_); have n4_ := Aside0.mk ((Kd.R_reads' hm_).2.1); clear HO_7; clear BK102; clear HB; clear HL125_0; have HO_7 := n0_; have BK102 := n1_; have HB := n2_; have HL132 := n3_; have HC128 := n4_; clear n0_ n1_ n2_ n3_ n4_; clear hg hw hp_ hz_ hm_ hok67))
                                              go_roundg kj23
                                              case measure => have := HK1.out; have := HK2.out; have := HJ14.out; have := HJ16.out; have := HJ18.out; have := HJ23.out; omega
                                              case rel => exact ⟨(y129), (wrap64 (x26_2 + 1)), (by first | rfl | (simp; done) | (simp [*]; done)), H', ⟨by have := HK1.out; have := HK2.out; have := HJ14.out; have := HJ16.out; have := HJ18.out; have := HJ23.out; omega⟩, ⟨by rw [Ny129.out, List.length_set]; exact HL2.out⟩, ⟨by (with_reducible repeat (first | refine RowAt.drewN ?_ _ | refine RowAt.drew ?_ | refine RowAt.alloc ?_ _)); exact HW.out⟩, ⟨by (with_reducible repeat (first | apply Kd.S_alloc | apply Kd.S_drewN | apply Kd.S_drew)); exact HO_7.out⟩, ⟨by (with_reducible repeat (first | refine blk_drewN ?_ _ | refine blk_drew ?_ | refine blk_alloc ?_ _)); exact BK102.out⟩, ⟨by repeat (first | (with_reducible first | exact HB.out | apply below_alloc | apply pw_below_drewN | apply below_drew1 | refine below_set ?_ GE102.out) | exact HB.out)⟩⟩
                                            · rw [if_neg c64] at H
                                              exact absurd H (by simp)
                                          · rw [if_neg c63] at H
                                            exact absurd H (by simp)
                                        · rw [if_neg c61] at H
                                          exact absurd H (by simp)
                                      · rw [if_neg c60] at H
                                        exact absurd H (by simp)
                  · rw [if_neg c14] at H
                    have c14b0 : decide (x26_2 < (y103.length : Int)) = false := decide_eq_false c14
                    clear c14
                    have H' := Aside0.mk H
                    clear H
                    go_wp2
                    go_roundg k2
                    case measure => have := HK1.out; have := HK2.out; omega
                    case rel => exact ⟨(x7_2), (wrap64 (x8_1 + 1)), (by first | rfl | (simp; done) | (simp [*]; done)), H', ⟨by have := HK1.out; have := HK2.out; omega⟩, ⟨by have h1_ := HX8.out; have h2_ := HL2.out; have h3_ := LMc9.out; unfold wrap64; omega⟩, ⟨by (with_reducible repeat (first | apply Kd.S_alloc | apply Kd.S_drewN | apply Kd.S_drew)); exact HO_7.out⟩, ⟨by (with_reducible repeat (first | refine blk_drewN ?_ _ | refine blk_drew ?_ | refine blk_alloc ?_ _)); exact BK102.out⟩, ⟨by repeat (first | (with_reducible first | exact HB.out | apply below_alloc | apply pw_below_drewN | apply below_drew1 | refine below_set ?_ GE102.out) | exact HB.out)⟩⟩
            · rw [if_neg c9] at H
              exact absurd H (by simp)
          · rw [if_neg c8] at H
            exact absurd H (by simp)
        · rw [if_neg c7] at H
          exact absurd H (by simp)
      · rw [if_neg c5] at H
        have c5b0 : decide (x8_1 ≤ a1) = false := decide_eq_false c5
        clear c5
        obtain rfl := Option.some.inj H
        go_wp2
        go_ret
        exact ⟨_, by first | rfl | (simp [errW_none, errW_some] <;> rfl) | (simp [*, errW_none, errW_some] <;> rfl), by (with_reducible repeat (first | apply Kd.S_alloc | apply Kd.S_drewN | apply Kd.S_drew)); exact HO_7.out, by repeat (first | (with_reducible first | exact HB.out | apply below_alloc | apply pw_below_drewN | apply below_drew1 | refine below_set ?_ GE102.out) | exact HB.out)⟩

end Go.Proofs.Ytjidebaganmeoaa.QWays
