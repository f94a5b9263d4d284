-- Written by a program of this session (wip/tools/gprint.sh) out of the translation, with some contracts given by hand.
import Derived.Test.YtmijfimjlenmpaaQFnExactMostPointsx0
import Derived.Test.YtmijfimjlenmpaaGShort
namespace Go.Proofs.Ytmijfimjlenmpaa.QFnExactMostPoints
open Go.RowKit Go.Proofs.YtmijfimjlenmpaaW.PrintWords Go.Proofs.YtmijfimjlenmpaaW.PrintLast Go.Proofs.YtmijfimjlenmpaaW.PrintMore Go.Proofs.Ytmijfimjlenmpaa.Sh
attribute [local go_sem] max2_int min2_int max_two min_two max_three min_three max_four min_four   -- for this text's walks alone
set_option linter.unusedVariables false
set_option linter.unusedSimpArgs false

/-! ### laws_szResultS: function 25 -/
def laws_szResultS.f (l0 : List (S71)) (a1 : Int) : Option (Int) := if (wrap64 (a1 - (l0.length : Int))) < 0 then (some (-1)) else (some (wrap64 (a1 - (l0.length : Int))))
set_option maxHeartbeats 8000000 in
set_option maxRecDepth 100000 in
theorem laws_szResultS.calls (A0 : Option Addr) (c0 : Nat) (l0 : List (S71)) (a1 : Int) (r : Int) (w : World) (hr0 : Kd.C k71 w A0 l0.length l0) (hc0 : l0.length ≤ c0) (h : laws_szResultS.f l0 a1 = some r) :
  Calls Try.prog 25 #[.slice A0 l0.length c0, .int .i64 a1] w fun e w' => e = .returned (.int .i64 r) ∧ Drawn0 w w' := by
 have HR0 := a_ hr0; have HC0 := a_ hc0; clear hr0 hc0; have H : (if (wrap64 (a1 - (l0.length : Int))) < 0 then (some (-1)) else (some (wrap64 (a1 - (l0.length : Int))))) = some r := h; clear h
 by_cases c3 : (wrap64 (a1 - (l0.length : Int))) < 0
 ·
  rw [if_pos c3] at H; have c3b0 : decide ((wrap64 (a1 - (l0.length : Int))) < 0) = true := decide_eq_true c3; clear c3; obtain rfl := Option.some.inj H
  go_enter Try.func25, Try.ntmps25
  go_wp2
  go_ret
  exact ⟨by first | rfl | (simp; done) | (simp [*]; done), by repeat (first | exact Drawn0.refl _ | apply Drawn0.step)⟩
 ·
  rw [if_neg c3] at H; have c3b0 : decide ((wrap64 (a1 - (l0.length : Int))) < 0) = false := decide_eq_false c3; clear c3; obtain rfl := Option.some.inj H
  go_enter Try.func25, Try.ntmps25
  go_wp2
  go_ret
  exact ⟨by first | rfl | (simp; done) | (simp [*]; done), by repeat (first | exact Drawn0.refl _ | apply Drawn0.step)⟩

/-! ### laws_szLeague: function 8 -/
def laws_szLeague.f (a0_0 : Int) (a0_1 : Int) (l0_2 : List (S71)) (a1 : Int) : Option (Int) := (laws_szResultS.f l0_2 a1).bind fun t102 => (if t102 < 0 then (some (-1)) else (some t102))
set_option maxHeartbeats 8000000 in
set_option maxRecDepth 100000 in
theorem laws_szLeague.calls (a0_0 : Int) (a0_1 : Int) (A0_2 : Option Addr) (c0_2 : Nat) (l0_2 : List (S71)) (a1 : Int) (r : Int) (w : World) (hr0_2 : Kd.C k71 w A0_2 l0_2.length l0_2) (hc0_2 : l0_2.length ≤ c0_2) (h : laws_szLeague.f a0_0 a0_1 l0_2 a1 = some r) :
  Calls Try.prog 8 #[.agg #[.int .i64 a0_0, .int .i64 a0_1, .slice A0_2 l0_2.length c0_2], .int .i64 a1] w fun e w' => e = .returned (.int .i64 r) ∧ Below w.heap.size w w' := by
 have hu24 := Try.underlying24; have HR0_2 := a_ hr0_2; have HC0_2 := a_ hc0_2; clear hr0_2 hc0_2; have HB := a_ (Below.refl w.heap.size w); have H : ((laws_szResultS.f l0_2 a1).bind fun t102 => (if t102 < 0 then (some (-1)) else (some t102))) = some r := h; clear h; replace H := Option.bind_eq_some_iff.mp H; obtain ⟨t102, A30, H⟩ := H; replace H : (if t102 < 0 then (some (-1)) else (some t102)) = some r := H; have A3 := a_ A30; clear A30
 by_cases c4 : t102 < 0
 ·
  rw [if_pos c4] at H; have c4b0 : decide (t102 < 0) = true := decide_eq_true c4; clear c4; obtain rfl := Option.some.inj H
  go_enter Try.func8, Try.ntmps8
  go_wp2_with (first | ((with_reducible refine gate_dst (N := 2) rfl ?_); refine box_event ?hg (N := 2) ?hd (cs := #[.int .i64 a0_0, .int .i64 a0_1, .slice A0_2 l0_2.length c0_2]) (t := 24) ?hr ?_; (case hd => rfl); (case hg => rfl); (case hr => first | (go_simp; done) | (go_simp; rfl)); intro gb101 hg w5 hbox hb; have n0_ := a_ (below_step (L_ HB.out (Nat.le_refl _) (Nat.le_refl _) (Nat.le_refl _)) hb); have n1_ := a_ (hbox); have n2_ := a_ ((by rw [hg]; exact (below_size (L_ HB.out (Nat.le_refl _) (Nat.le_refl _) (Nat.le_refl _))) : w.heap.size ≤ gb101)); have n3_ := a_ ((by rw [hg]; exact (below_size (L_ HB.out (Nat.le_refl _) (Nat.le_refl _) (Nat.le_refl _))) : w.heap.size ≤ gb101)); clear HB; have HB := n0_; have BK101 := n1_; have GW101 := n2_; have GE101 := n3_; clear n0_ n1_ n2_ n3_; clear hb hbox hg; have hcz6_0 : w5.cell? ⟨gb101, 0, none⟩ = some (.int .i64 a0_0) := c_ BK101.out 0; have hcz6_1 : w5.cell? ⟨gb101, 1, none⟩ = some (.int .i64 a0_1) := c_ BK101.out 1; have hcz6_2 : w5.cell? ⟨gb101, 2, none⟩ = some (.slice A0_2 l0_2.length c0_2) := c_ BK101.out 2; have hfz6_0 := blk_frozen BK101.out 0; have hfz6_1 := blk_frozen BK101.out 1; have hfz6_2 := blk_frozen BK101.out 2) | ((with_reducible refine gate_callee (f := 25) rfl ?_); refine goesL_ (some 8) rfl rfl Try.func25 (by kernel_rfl) rfl #[.slice A0_2 l0_2.length c0_2, .int .i64 a1] rfl (by (try simp only [m1_, m2_, m3_]); first | done | rfl) ?_; (with_reducible refine (laws_szResultS.calls _ _ l0_2 a1 t102 _ ?side1 ?side2 A3.out).mono ?_); (case side1 => repeat (first | exact (Kd.C_below HR0_2.out HB.out) | (with_reducible refine Kd.C_alloc ?_ _) | (with_reducible refine Kd.C_drewN ?_ _) | (with_reducible refine Kd.C_drew ?_))); (case side2 => exact HC0_2.out); rintro e w' ⟨rfl, ⟨nd, rfl⟩⟩; refine ⟨_, rfl, ?_⟩))
  go_ret
  exact ⟨by first | rfl | (simp [errW_none, errW_some] <;> rfl) | (simp [*, errW_none, errW_some] <;> rfl), by repeat (first | (with_reducible first | exact HB.out | apply below_alloc | apply pw_below_drewN | apply below_drew1 | refine below_set ?_ GE101.out) | exact HB.out)⟩
 ·
  rw [if_neg c4] at H; have c4b0 : decide (t102 < 0) = false := decide_eq_false c4; clear c4; obtain rfl := Option.some.inj H
  go_enter Try.func8, Try.ntmps8
  go_wp2_with (first | ((with_reducible refine gate_dst (N := 2) rfl ?_); refine box_event ?hg (N := 2) ?hd (cs := #[.int .i64 a0_0, .int .i64 a0_1, .slice A0_2 l0_2.length c0_2]) (t := 24) ?hr ?_; (case hd => rfl); (case hg => rfl); (case hr => first | (go_simp; done) | (go_simp; rfl)); intro gb101 hg w7 hbox hb; have n0_ := a_ (below_step (L_ HB.out (Nat.le_refl _) (Nat.le_refl _) (Nat.le_refl _)) hb); have n1_ := a_ (hbox); have n2_ := a_ ((by rw [hg]; exact (below_size (L_ HB.out (Nat.le_refl _) (Nat.le_refl _) (Nat.le_refl _))) : w.heap.size ≤ gb101)); have n3_ := a_ ((by rw [hg]; exact (below_size (L_ HB.out (Nat.le_refl _) (Nat.le_refl _) (Nat.le_refl _))) : w.heap.size ≤ gb101)); clear HB; have HB := n0_; have BK101 := n1_; have GW101 := n2_; have GE101 := n3_; clear n0_ n1_ n2_ n3_; clear hb hbox hg; have hcz8_0 : w7.cell? ⟨gb101, 0, none⟩ = some (.int .i64 a0_0) := c_ BK101.out 0; have hcz8_1 : w7.cell? ⟨gb101, 1, none⟩ = some (.int .i64 a0_1) := c_ BK101.out 1; have hcz8_2 : w7.cell? ⟨gb101, 2, none⟩ = some (.slice A0_2 l0_2.length c0_2) := c_ BK101.out 2; have hfz8_0 := blk_frozen BK101.out 0; have hfz8_1 := blk_frozen BK101.out 1; have hfz8_2 := blk_frozen BK101.out 2) | ((with_reducible refine gate_callee (f := 25) rfl ?_); refine goesL_ (some 8) rfl rfl Try.func25 (by kernel_rfl) rfl #[.slice A0_2 l0_2.length c0_2, .int .i64 a1] rfl (by (try simp only [m1_, m2_, m3_]); first | done | rfl) ?_; (with_reducible refine (laws_szResultS.calls _ _ l0_2 a1 t102 _ ?side1 ?side2 A3.out).mono ?_); (case side1 => repeat (first | exact (Kd.C_below HR0_2.out HB.out) | (with_reducible refine Kd.C_alloc ?_ _) | (with_reducible refine Kd.C_drewN ?_ _) | (with_reducible refine Kd.C_drew ?_))); (case side2 => exact HC0_2.out); rintro e w' ⟨rfl, ⟨nd, rfl⟩⟩; refine ⟨_, rfl, ?_⟩))
  go_ret
  exact ⟨by first | rfl | (simp [errW_none, errW_some] <;> rfl) | (simp [*, errW_none, errW_some] <;> rfl), by repeat (first | (with_reducible first | exact HB.out | apply below_alloc | apply pw_below_drewN | apply below_drew1 | refine below_set ?_ GE101.out) | exact HB.out)⟩

/-! ### spec_l1In: function 48 -/
def spec_l1In.f (a0 : Int) (a1 : Int) (a2 : Int) : Option (Bool) := if a0 ≥ a1 then (some (decide (a0 ≤ a2))) else (some false)
set_option maxHeartbeats 8000000 in
set_option maxRecDepth 100000 in
theorem spec_l1In.calls (a0 : Int) (a1 : Int) (a2 : Int) (r : Bool) (w : World) (h : spec_l1In.f a0 a1 a2 = some r) :
  Calls Try.prog 48 #[.int .i64 a0, .int .i64 a1, .int .i64 a2] w fun e w' => e = .returned (.bool r) ∧ Drawn0 w w' := by
 have H : (if a0 ≥ a1 then (some (decide (a0 ≤ a2))) else (some false)) = some r := h; clear h
 by_cases c4 : a0 ≥ a1
 ·
  rw [if_pos c4] at H; have c4b0 : decide (a1 ≤ a0) = true := decide_eq_true c4; clear c4; obtain rfl := Option.some.inj H
  go_enter Try.func48, Try.ntmps48
  go_wp2
  go_ret
  exact ⟨by first | rfl | (simp; done) | (simp [*]; done), by repeat (first | exact Drawn0.refl _ | apply Drawn0.step)⟩
 ·
  rw [if_neg c4] at H; have c4b0 : decide (a1 ≤ a0) = false := decide_eq_false c4; clear c4; obtain rfl := Option.some.inj H
  go_enter Try.func48, Try.ntmps48
  go_wp2
  go_ret
  exact ⟨by first | rfl | (simp; done) | (simp [*]; done), by repeat (first | exact Drawn0.refl _ | apply Drawn0.step)⟩

/-! ### spec_lgResult: function 59 -/
def spec_lgResult.f (a0 : Int) (a1_0 : Int) (a1_1 : Int) (a1_2 : Int) (a1_3 : Int) : Option (Bool) := (spec_l1In.f a1_0 0 (wrap64 (a0 - 1))).bind fun t104 => (if t104 = true then ((spec_l1In.f a1_1 0 (wrap64 (a0 - 1))).bind fun t105 => (if t105 = true then (if a1_0 = a1_1 then (some false) else ((spec_l1In.f a1_2 0 20).bind fun t106 => (if t106 = true then ((spec_l1In.f a1_3 0 20).bind fun t107 => (some t107)) else (some false)))) else (some false))) else (some false))
set_option maxHeartbeats 8000000 in
set_option maxRecDepth 100000 in
theorem spec_lgResult.calls (a0 : Int) (a1_0 : Int) (a1_1 : Int) (a1_2 : Int) (a1_3 : Int) (r : Bool) (w : World) (h : spec_lgResult.f a0 a1_0 a1_1 a1_2 a1_3 = some r) :
  Calls Try.prog 59 #[.int .i64 a0, .agg #[.int .i64 a1_0, .int .i64 a1_1, .int .i64 a1_2, .int .i64 a1_3]] w fun e w' => e = .returned (.bool r) ∧ Below w.heap.size w w' := by
 have hu68 := Try.underlying68; have HB := a_ (Below.refl w.heap.size w); have H : ((spec_l1In.f a1_0 0 (wrap64 (a0 - 1))).bind fun t104 => (if t104 = true then ((spec_l1In.f a1_1 0 (wrap64 (a0 - 1))).bind fun t105 => (if t105 = true then (if a1_0 = a1_1 then (some false) else ((spec_l1In.f a1_2 0 20).bind fun t106 => (if t106 = true then ((spec_l1In.f a1_3 0 20).bind fun t107 => (some t107)) else (some false)))) else (some false))) else (some false))) = some r := h; clear h; replace H := Option.bind_eq_some_iff.mp H; obtain ⟨t104, A30, H⟩ := H; replace H : (if t104 = true then ((spec_l1In.f a1_1 0 (wrap64 (a0 - 1))).bind fun t105 => (if t105 = true then (if a1_0 = a1_1 then (some false) else ((spec_l1In.f a1_2 0 20).bind fun t106 => (if t106 = true then ((spec_l1In.f a1_3 0 20).bind fun t107 => (some t107)) else (some false)))) else (some false))) else (some false)) = some r := H; have A3 := a_ A30; clear A30
 by_cases c4 : t104 = true
 ·
  subst c4; have H1 : ((spec_l1In.f a1_1 0 (wrap64 (a0 - 1))).bind fun t105 => (if t105 = true then (if a1_0 = a1_1 then (some false) else ((spec_l1In.f a1_2 0 20).bind fun t106 => (if t106 = true then ((spec_l1In.f a1_3 0 20).bind fun t107 => (some t107)) else (some false)))) else (some false))) = some r := by rw [if_pos rfl] at H; exact H
  clear H; have H := H1; clear H1; replace H := Option.bind_eq_some_iff.mp H; obtain ⟨t105, A50, H⟩ := H; replace H : (if t105 = true then (if a1_0 = a1_1 then (some false) else ((spec_l1In.f a1_2 0 20).bind fun t106 => (if t106 = true then ((spec_l1In.f a1_3 0 20).bind fun t107 => (some t107)) else (some false)))) else (some false)) = some r := H; have A5 := a_ A50; clear A50
  by_cases c6 : t105 = true
  ·
   subst c6; have H1 : (if a1_0 = a1_1 then (some false) else ((spec_l1In.f a1_2 0 20).bind fun t106 => (if t106 = true then ((spec_l1In.f a1_3 0 20).bind fun t107 => (some t107)) else (some false)))) = some r := by rw [if_pos rfl] at H; exact H
   clear H; have H := H1; clear H1
   by_cases c7 : a1_0 = a1_1
   ·
    rw [if_pos c7] at H; have c7b0 : (a1_0 == a1_1) = true := beq_iff_eq.mpr c7; have c7b1 : (a1_0 != a1_1) = false := bne_eq_false_iff_eq.mpr c7; clear c7; obtain rfl := Option.some.inj H
    go_enter Try.func59, Try.ntmps59
    go_wp2_with (first | ((with_reducible refine gate_dst (N := 3) rfl ?_); refine box_event ?hg (N := 3) ?hd (cs := #[.int .i64 a1_0, .int .i64 a1_1, .int .i64 a1_2, .int .i64 a1_3]) (t := 68) ?hr ?_; (case hd => rfl); (case hg => rfl); (case hr => first | (go_simp; done) | (go_simp; rfl)); intro gb103 hg w8 hbox hb; have n0_ := a_ (below_step (L_ HB.out (Nat.le_refl _) (Nat.le_refl _) (Nat.le_refl _)) hb); have n1_ := a_ (hbox); have n2_ := a_ ((by rw [hg]; exact (below_size (L_ HB.out (Nat.le_refl _) (Nat.le_refl _) (Nat.le_refl _))) : w.heap.size ≤ gb103)); have n3_ := a_ ((by rw [hg]; exact (below_size (L_ HB.out (Nat.le_refl _) (Nat.le_refl _) (Nat.le_refl _))) : w.heap.size ≤ gb103)); clear HB; have HB := n0_; have BK103 := n1_; have GW103 := n2_; have GE103 := n3_; clear n0_ n1_ n2_ n3_; clear hb hbox hg; have hcz9_0 : w8.cell? ⟨gb103, 0, none⟩ = some (.int .i64 a1_0) := c_ BK103.out 0; have hcz9_1 : w8.cell? ⟨gb103, 1, none⟩ = some (.int .i64 a1_1) := c_ BK103.out 1; have hcz9_2 : w8.cell? ⟨gb103, 2, none⟩ = some (.int .i64 a1_2) := c_ BK103.out 2; have hcz9_3 : w8.cell? ⟨gb103, 3, none⟩ = some (.int .i64 a1_3) := c_ BK103.out 3; have hfz9_0 := blk_frozen BK103.out 0; have hfz9_1 := blk_frozen BK103.out 1; have hfz9_2 := blk_frozen BK103.out 2; have hfz9_3 := blk_frozen BK103.out 3) | ((with_reducible refine gate_callee (f := 48) rfl ?_); refine goesL_ (some 9) rfl rfl Try.func48 (by kernel_rfl) rfl #[.int .i64 a1_0, .int .i64 0, .int .i64 (wrap64 (a0 - 1))] rfl (by (try simp only [m1_, m2_, m3_]); first | done | rfl) ?_; (with_reducible refine (spec_l1In.calls a1_0 0 (wrap64 (a0 - 1)) true _ A3.out).mono ?_); rintro e w' ⟨rfl, ⟨nd, rfl⟩⟩; refine ⟨_, rfl, ?_⟩) | (go_at_call 48; (with_reducible refine (spec_l1In.calls a1_1 0 (wrap64 (a0 - 1)) true _ A5.out).mono ?_); rintro e w' ⟨rfl, ⟨nd, rfl⟩⟩))
    go_ret
    exact ⟨by first | rfl | (simp [errW_none, errW_some] <;> rfl) | (simp [*, errW_none, errW_some] <;> rfl), by repeat (first | (with_reducible first | exact HB.out | apply below_alloc | apply pw_below_drewN | apply below_drew1 | refine below_set ?_ GE103.out) | exact HB.out)⟩
   ·
    rw [if_neg c7] at H; have c7b0 : (a1_0 == a1_1) = false := beq_eq_false_iff_ne.mpr c7; have c7b1 : (a1_0 != a1_1) = true := bne_iff_ne.mpr c7; replace H := Option.bind_eq_some_iff.mp H; obtain ⟨t106, A100, H⟩ := H; replace H : (if t106 = true then ((spec_l1In.f a1_3 0 20).bind fun t107 => (some t107)) else (some false)) = some r := H; have A10 := a_ A100; clear A100
    by_cases c11 : t106 = true
    ·
     subst c11; have H1 : ((spec_l1In.f a1_3 0 20).bind fun t107 => (some t107)) = some r := by rw [if_pos rfl] at H; exact H
     clear H; have H := H1; clear H1; replace H := Option.bind_eq_some_iff.mp H; obtain ⟨t107, A120, H⟩ := H; replace H : (some t107) = some r := H; have A12 := a_ A120; clear A120; obtain rfl := Option.some.inj H
     go_enter Try.func59, Try.ntmps59
     go_wp2_with (first | ((with_reducible refine gate_dst (N := 3) rfl ?_); refine box_event ?hg (N := 3) ?hd (cs := #[.int .i64 a1_0, .int .i64 a1_1, .int .i64 a1_2, .int .i64 a1_3]) (t := 68) ?hr ?_; (case hd => rfl); (case hg => rfl); (case hr => first | (go_simp; done) | (go_simp; rfl)); intro gb103 hg w13 hbox hb; have n0_ := a_ (below_step (L_ HB.out (Nat.le_refl _) (Nat.le_refl _) (Nat.le_refl _)) hb); have n1_ := a_ (hbox); have n2_ := a_ ((by rw [hg]; exact (below_size (L_ HB.out (Nat.le_refl _) (Nat.le_refl _) (Nat.le_refl _))) : w.heap.size ≤ gb103)); have n3_ := a_ ((by rw [hg]; exact (below_size (L_ HB.out (Nat.le_refl _) (Nat.le_refl _) (Nat.le_refl _))) : w.heap.size ≤ gb103)); clear HB; have HB := n0_; have BK103 := n1_; have GW103 := n2_; have GE103 := n3_; clear n0_ n1_ n2_ n3_; clear hb hbox hg; have hcz14_0 : w13.cell? ⟨gb103, 0, none⟩ = some (.int .i64 a1_0) := c_ BK103.out 0; have hcz14_1 : w13.cell? ⟨gb103, 1, none⟩ = some (.int .i64 a1_1) := c_ BK103.out 1; have hcz14_2 : w13.cell? ⟨gb103, 2, none⟩ = some (.int .i64 a1_2) := c_ BK103.out 2; have hcz14_3 : w13.cell? ⟨gb103, 3, none⟩ = some (.int .i64 a1_3) := c_ BK103.out 3; have hfz14_0 := blk_frozen BK103.out 0; have hfz14_1 := blk_frozen BK103.out 1; have hfz14_2 := blk_frozen BK103.out 2; have hfz14_3 := blk_frozen BK103.out 3) | ((with_reducible refine gate_callee (f := 48) rfl ?_); refine goesL_ (some 9) rfl rfl Try.func48 (by kernel_rfl) rfl #[.int .i64 a1_0, .int .i64 0, .int .i64 (wrap64 (a0 - 1))] rfl (by (try simp only [m1_, m2_, m3_]); first | done | rfl) ?_; (with_reducible refine (spec_l1In.calls a1_0 0 (wrap64 (a0 - 1)) true _ A3.out).mono ?_); rintro e w' ⟨rfl, ⟨nd, rfl⟩⟩; refine ⟨_, rfl, ?_⟩) | (go_at_call 48; (with_reducible refine (spec_l1In.calls a1_1 0 (wrap64 (a0 - 1)) true _ A5.out).mono ?_); rintro e w' ⟨rfl, ⟨nd, rfl⟩⟩) | (go_at_call 48; (with_reducible refine (spec_l1In.calls a1_2 0 20 true _ A10.out).mono ?_); rintro e w' ⟨rfl, ⟨nd, rfl⟩⟩) | (go_at_call 48; (with_reducible refine (spec_l1In.calls a1_3 0 20 t107 _ A12.out).mono ?_); rintro e w' ⟨rfl, ⟨nd, rfl⟩⟩))
     go_ret
     exact ⟨by first | rfl | (simp [errW_none, errW_some] <;> rfl) | (simp [*, errW_none, errW_some] <;> rfl), by repeat (first | (with_reducible first | exact HB.out | apply below_alloc | apply pw_below_drewN | apply below_drew1 | refine below_set ?_ GE103.out) | exact HB.out)⟩
    ·
     replace c11 := Bool.eq_false_iff.mpr c11; subst c11; have H1 : (some false) = some r := by rw [if_neg (show ¬ (false = true) by decide)] at H; exact H
     clear H; have H := H1; clear H1; obtain rfl := Option.some.inj H
     go_enter Try.func59, Try.ntmps59
     go_wp2_with (first | ((with_reducible refine gate_dst (N := 3) rfl ?_); refine box_event ?hg (N := 3) ?hd (cs := #[.int .i64 a1_0, .int .i64 a1_1, .int .i64 a1_2, .int .i64 a1_3]) (t := 68) ?hr ?_; (case hd => rfl); (case hg => rfl); (case hr => first | (go_simp; done) | (go_simp; rfl)); intro gb103 hg w15 hbox hb; have n0_ := a_ (below_step (L_ HB.out (Nat.le_refl _) (Nat.le_refl _) (Nat.le_refl _)) hb); have n1_ := a_ (hbox); have n2_ := a_ ((by rw [hg]; exact (below_size (L_ HB.out (Nat.le_refl _) (Nat.le_refl _) (Nat.le_refl _))) : w.heap.size ≤ gb103)); have n3_ := a_ ((by rw [hg]; exact (below_size (L_ HB.out (Nat.le_refl _) (Nat.le_refl _) (Nat.le_refl _))) : w.heap.size ≤ gb103)); clear HB; have HB := n0_; have BK103 := n1_; have GW103 := n2_; have GE103 := n3_; clear n0_ n1_ n2_ n3_; clear hb hbox hg; have hcz16_0 : w15.cell? ⟨gb103, 0, none⟩ = some (.int .i64 a1_0) := c_ BK103.out 0; have hcz16_1 : w15.cell? ⟨gb103, 1, none⟩ = some (.int .i64 a1_1) := c_ BK103.out 1; have hcz16_2 : w15.cell? ⟨gb103, 2, none⟩ = some (.int .i64 a1_2) := c_ BK103.out 2; have hcz16_3 : w15.cell? ⟨gb103, 3, none⟩ = some (.int .i64 a1_3) := c_ BK103.out 3; have hfz16_0 := blk_frozen BK103.out 0; have hfz16_1 := blk_frozen BK103.out 1; have hfz16_2 := blk_frozen BK103.out 2; have hfz16_3 := blk_frozen BK103.out 3) | ((with_reducible refine gate_callee (f := 48) rfl ?_); refine goesL_ (some 9) rfl rfl Try.func48 (by kernel_rfl) rfl #[.int .i64 a1_0, .int .i64 0, .int .i64 (wrap64 (a0 - 1))] rfl (by (try simp only [m1_, m2_, m3_]); first | done | rfl) ?_; (with_reducible refine (spec_l1In.calls a1_0 0 (wrap64 (a0 - 1)) true _ A3.out).mono ?_); rintro e w' ⟨rfl, ⟨nd, rfl⟩⟩; refine ⟨_, rfl, ?_⟩) | (go_at_call 48; (with_reducible refine (spec_l1In.calls a1_1 0 (wrap64 (a0 - 1)) true _ A5.out).mono ?_); rintro e w' ⟨rfl, ⟨nd, rfl⟩⟩) | (go_at_call 48; (with_reducible refine (spec_l1In.calls a1_2 0 20 false _ A10.out).mono ?_); rintro e w' ⟨rfl, ⟨nd, rfl⟩⟩))
     go_ret
     exact ⟨by first | rfl | (simp [errW_none, errW_some] <;> rfl) | (simp [*, errW_none, errW_some] <;> rfl), by repeat (first | (with_reducible first | exact HB.out | apply below_alloc | apply pw_below_drewN | apply below_drew1 | refine below_set ?_ GE103.out) | exact HB.out)⟩
  ·
   replace c6 := Bool.eq_false_iff.mpr c6; subst c6; have H1 : (some false) = some r := by rw [if_neg (show ¬ (false = true) by decide)] at H; exact H
   clear H; have H := H1; clear H1; obtain rfl := Option.some.inj H
   go_enter Try.func59, Try.ntmps59
   go_wp2_with (first | ((with_reducible refine gate_dst (N := 3) rfl ?_); refine box_event ?hg (N := 3) ?hd (cs := #[.int .i64 a1_0, .int .i64 a1_1, .int .i64 a1_2, .int .i64 a1_3]) (t := 68) ?hr ?_; (case hd => rfl); (case hg => rfl); (case hr => first | (go_simp; done) | (go_simp; rfl)); intro gb103 hg w17 hbox hb; have n0_ := a_ (below_step (L_ HB.out (Nat.le_refl _) (Nat.le_refl _) (Nat.le_refl _)) hb); have n1_ := a_ (hbox); have n2_ := a_ ((by rw [hg]; exact (below_size (L_ HB.out (Nat.le_refl _) (Nat.le_refl _) (Nat.le_refl _))) : w.heap.size ≤ gb103)); have n3_ := a_ ((by rw [hg]; exact (below_size (L_ HB.out (Nat.le_refl _) (Nat.le_refl _) (Nat.le_refl _))) : w.heap.size ≤ gb103)); clear HB; have HB := n0_; have BK103 := n1_; have GW103 := n2_; have GE103 := n3_; clear n0_ n1_ n2_ n3_; clear hb hbox hg; have hcz18_0 : w17.cell? ⟨gb103, 0, none⟩ = some (.int .i64 a1_0) := c_ BK103.out 0; have hcz18_1 : w17.cell? ⟨gb103, 1, none⟩ = some (.int .i64 a1_1) := c_ BK103.out 1; have hcz18_2 : w17.cell? ⟨gb103, 2, none⟩ = some (.int .i64 a1_2) := c_ BK103.out 2; have hcz18_3 : w17.cell? ⟨gb103, 3, none⟩ = some (.int .i64 a1_3) := c_ BK103.out 3; have hfz18_0 := blk_frozen BK103.out 0; have hfz18_1 := blk_frozen BK103.out 1; have hfz18_2 := blk_frozen BK103.out 2; have hfz18_3 := blk_frozen BK103.out 3) | ((with_reducible refine gate_callee (f := 48) rfl ?_); refine goesL_ (some 9) rfl rfl Try.func48 (by kernel_rfl) rfl #[.int .i64 a1_0, .int .i64 0, .int .i64 (wrap64 (a0 - 1))] rfl (by (try simp only [m1_, m2_, m3_]); first | done | rfl) ?_; (with_reducible refine (spec_l1In.calls a1_0 0 (wrap64 (a0 - 1)) true _ A3.out).mono ?_); rintro e w' ⟨rfl, ⟨nd, rfl⟩⟩; refine ⟨_, rfl, ?_⟩) | (go_at_call 48; (with_reducible refine (spec_l1In.calls a1_1 0 (wrap64 (a0 - 1)) false _ A5.out).mono ?_); rintro e w' ⟨rfl, ⟨nd, rfl⟩⟩))
   go_ret
   exact ⟨by first | rfl | (simp [errW_none, errW_some] <;> rfl) | (simp [*, errW_none, errW_some] <;> rfl), by repeat (first | (with_reducible first | exact HB.out | apply below_alloc | apply pw_below_drewN | apply below_drew1 | refine below_set ?_ GE103.out) | exact HB.out)⟩
 ·
  replace c4 := Bool.eq_false_iff.mpr c4; subst c4; have H1 : (some false) = some r := by rw [if_neg (show ¬ (false = true) by decide)] at H; exact H
  clear H; have H := H1; clear H1; obtain rfl := Option.some.inj H
  go_enter Try.func59, Try.ntmps59
  go_wp2_with (first | ((with_reducible refine gate_dst (N := 3) rfl ?_); refine box_event ?hg (N := 3) ?hd (cs := #[.int .i64 a1_0, .int .i64 a1_1, .int .i64 a1_2, .int .i64 a1_3]) (t := 68) ?hr ?_; (case hd => rfl); (case hg => rfl); (case hr => first | (go_simp; done) | (go_simp; rfl)); intro gb103 hg w19 hbox hb; have n0_ := a_ (below_step (L_ HB.out (Nat.le_refl _) (Nat.le_refl _) (Nat.le_refl _)) hb); have n1_ := a_ (hbox); have n2_ := a_ ((by rw [hg]; exact (below_size (L_ HB.out (Nat.le_refl _) (Nat.le_refl _) (Nat.le_refl _))) : w.heap.size ≤ gb103)); have n3_ := a_ ((by rw [hg]; exact (below_size (L_ HB.out (Nat.le_refl _) (Nat.le_refl _) (Nat.le_refl _))) : w.heap.size ≤ gb103)); clear HB; have HB := n0_; have BK103 := n1_; have GW103 := n2_; have GE103 := n3_; clear n0_ n1_ n2_ n3_; clear hb hbox hg; have hcz20_0 : w19.cell? ⟨gb103, 0, none⟩ = some (.int .i64 a1_0) := c_ BK103.out 0; have hcz20_1 : w19.cell? ⟨gb103, 1, none⟩ = some (.int .i64 a1_1) := c_ BK103.out 1; have hcz20_2 : w19.cell? ⟨gb103, 2, none⟩ = some (.int .i64 a1_2) := c_ BK103.out 2; have hcz20_3 : w19.cell? ⟨gb103, 3, none⟩ = some (.int .i64 a1_3) := c_ BK103.out 3; have hfz20_0 := blk_frozen BK103.out 0; have hfz20_1 := blk_frozen BK103.out 1; have hfz20_2 := blk_frozen BK103.out 2; have hfz20_3 := blk_frozen BK103.out 3) | ((with_reducible refine gate_callee (f := 48) rfl ?_); refine goesL_ (some 9) rfl rfl Try.func48 (by kernel_rfl) rfl #[.int .i64 a1_0, .int .i64 0, .int .i64 (wrap64 (a0 - 1))] rfl (by (try simp only [m1_, m2_, m3_]); first | done | rfl) ?_; (with_reducible refine (spec_l1In.calls a1_0 0 (wrap64 (a0 - 1)) false _ A3.out).mono ?_); rintro e w' ⟨rfl, ⟨nd, rfl⟩⟩; refine ⟨_, rfl, ?_⟩))
  go_ret
  exact ⟨by first | rfl | (simp [errW_none, errW_some] <;> rfl) | (simp [*, errW_none, errW_some] <;> rfl), by repeat (first | (with_reducible first | exact HB.out | apply below_alloc | apply pw_below_drewN | apply below_drew1 | refine below_set ?_ GE103.out) | exact HB.out)⟩

/-! ### spec_lgGood: function 43 -/
mutual
def spec_lgGood.j0 : Nat → Bool → Int → Int → List (S68) → Option (Bool)
 | 0, _, _, _, _ => none
 | k + 1, x22, x109000, x109001, x109002 => if x22 = true then (some false) else (spec_lgGood.l0 k x109002 (x109002.length : Int) 0 x109000 x109001 x109002)
def spec_lgGood.l0 : Nat → List (S68) → Int → Int → Int → Int → List (S68) → Option (Bool)
 | 0, _, _, _, _, _, _ => none
 | k + 1, x24, x25, x26, x109000, x109001, x109002 => if x26 < x25 then (if 0 ≤ x26 then (if x26 < (x24.length : Int) then ((spec_lgResult.f x109000 ((rd_T68 x24 x26).f0) ((rd_T68 x24 x26).f1) ((rd_T68 x24 x26).f2) ((rd_T68 x24 x26).f3)).bind fun t113 => (if t113 = true then (if x26 ≤ (x109002.length : Int) then ((some (x109002.take (x26 : Int).toNat : List (S68))).bind fun y114 => (spec_lgGood.l1 k x24 x25 x26 y114 (y114.length : Int) 0 x109000 x109001 x109002 ((rd_T68 x24 x26).f0) ((rd_T68 x24 x26).f1) ((rd_T68 x24 x26).f2) ((rd_T68 x24 x26).f3))) else (none)) else (some false))) else (none)) else (none)) else (some true)
def spec_lgGood.l1 : Nat → List (S68) → Int → Int → List (S68) → Int → Int → Int → Int → List (S68) → Int → Int → Int → Int → Option (Bool)
 | 0, _, _, _, _, _, _, _, _, _, _, _, _, _ => none
 | k + 1, x24, x25, x26, x39, x40, x41, x109000, x109001, x109002, x113000, x113001, x113002, x113003 => if x41 < x40 then (if 0 ≤ x41 then (if x41 < (x39.length : Int) then (if ((rd_T68 x39 x41).f0) = x113000 then (if ((rd_T68 x39 x41).f1) = x113001 then (some false) else (spec_lgGood.l1 k x24 x25 x26 x39 x40 (wrap64 (x41 + 1)) x109000 x109001 x109002 x113000 x113001 x113002 x113003)) else (spec_lgGood.l1 k x24 x25 x26 x39 x40 (wrap64 (x41 + 1)) x109000 x109001 x109002 x113000 x113001 x113002 x113003)) else (none)) else (none)) else (spec_lgGood.l0 k x24 x25 (wrap64 (x26 + 1)) x109000 x109001 x109002)
end
def spec_lgGood.f (k : Nat) (a0_0 : Int) (a0_1 : Int) (l0_2 : List (S68)) : Option (Bool) := (spec_l1In.f a0_0 2 8).bind fun t109 => (if t109 = true then ((spec_l1In.f a0_1 2 3).bind fun t110 => (if t110 = true then (spec_lgGood.j0 k (decide ((l0_2.length : Int) > 56)) a0_0 a0_1 l0_2) else (spec_lgGood.j0 k true a0_0 a0_1 l0_2))) else (spec_lgGood.j0 k true a0_0 a0_1 l0_2))
theorem spec_lgGood.mono_l : ∀ k, (∀ y0 y1 y2 y3, LeO (spec_lgGood.j0 k y0 y1 y2 y3) (spec_lgGood.j0 (k + 1) y0 y1 y2 y3)) ∧ (∀ y0 y1 y2 y3 y4 y5, LeO (spec_lgGood.l0 k y0 y1 y2 y3 y4 y5) (spec_lgGood.l0 (k + 1) y0 y1 y2 y3 y4 y5)) ∧ (∀ y0 y1 y2 y3 y4 y5 y6 y7 y8 y9 y10 y11 y12, LeO (spec_lgGood.l1 k y0 y1 y2 y3 y4 y5 y6 y7 y8 y9 y10 y11 y12) (spec_lgGood.l1 (k + 1) y0 y1 y2 y3 y4 y5 y6 y7 y8 y9 y10 y11 y12))
 | 0 => ⟨fun _ _ _ _ r h => by simp [spec_lgGood.j0] at h, fun _ _ _ _ _ _ r h => by simp [spec_lgGood.l0] at h, fun _ _ _ _ _ _ _ _ _ _ _ _ _ r h => by simp [spec_lgGood.l1] at h⟩
 | k + 1 => by
  obtain ⟨ih0, ih1, ih2⟩ := spec_lgGood.mono_l k
  refine ⟨?_, ?_, ?_⟩
  ·
   intro y0 y1 y2 y3
   unfold spec_lgGood.j0
   repeat' first
   | (with_reducible exact ih0 _ _ _ _)
   | (with_reducible exact ih1 _ _ _ _ _ _)
   | (with_reducible exact ih2 _ _ _ _ _ _ _ _ _ _ _ _ _)
   | (with_reducible exact LeO.refl _)
   | (with_reducible exact LeO.none _)
   | (with_reducible refine LeO.ite ?_ ?_)
   | (with_reducible refine LeO.bind ?_ (fun _ => ?_))
   | exact ih0 _ _ _ _
   | exact ih1 _ _ _ _ _ _
   | exact ih2 _ _ _ _ _ _ _ _ _ _ _ _ _
   | exact LeO.none _
   | refine LeO.ite ?_ ?_
   | refine LeO.bind ?_ (fun _ => ?_)
  ·
   intro y0 y1 y2 y3 y4 y5
   unfold spec_lgGood.l0
   repeat' first
   | (with_reducible exact ih0 _ _ _ _)
   | (with_reducible exact ih1 _ _ _ _ _ _)
   | (with_reducible exact ih2 _ _ _ _ _ _ _ _ _ _ _ _ _)
   | (with_reducible exact LeO.refl _)
   | (with_reducible exact LeO.none _)
   | (with_reducible refine LeO.ite ?_ ?_)
   | (with_reducible refine LeO.bind ?_ (fun _ => ?_))
   | exact ih0 _ _ _ _
   | exact ih1 _ _ _ _ _ _
   | exact ih2 _ _ _ _ _ _ _ _ _ _ _ _ _
   | exact LeO.none _
   | refine LeO.ite ?_ ?_
   | refine LeO.bind ?_ (fun _ => ?_)
  ·
   intro y0 y1 y2 y3 y4 y5 y6 y7 y8 y9 y10 y11 y12
   unfold spec_lgGood.l1
   repeat' first
   | (with_reducible exact ih0 _ _ _ _)
   | (with_reducible exact ih1 _ _ _ _ _ _)
   | (with_reducible exact ih2 _ _ _ _ _ _ _ _ _ _ _ _ _)
   | (with_reducible exact LeO.refl _)
   | (with_reducible exact LeO.none _)
   | (with_reducible refine LeO.ite ?_ ?_)
   | (with_reducible refine LeO.bind ?_ (fun _ => ?_))
   | exact ih0 _ _ _ _
   | exact ih1 _ _ _ _ _ _
   | exact ih2 _ _ _ _ _ _ _ _ _ _ _ _ _
   | exact LeO.none _
   | refine LeO.ite ?_ ?_
   | refine LeO.bind ?_ (fun _ => ?_)
theorem spec_lgGood.mono : ∀ a0 a1 a2 k, LeO (spec_lgGood.f k a0 a1 a2) (spec_lgGood.f (k + 1) a0 a1 a2) := by
 intro a0 a1 a2 k
 obtain ⟨ih0, ih1, ih2⟩ := spec_lgGood.mono_l k
 unfold spec_lgGood.f
 repeat' first
   | (with_reducible exact ih0 _ _ _ _)
   | (with_reducible exact ih1 _ _ _ _ _ _)
   | (with_reducible exact ih2 _ _ _ _ _ _ _ _ _ _ _ _ _)
   | (with_reducible exact LeO.refl _)
   | (with_reducible exact LeO.none _)
   | (with_reducible refine LeO.ite ?_ ?_)
   | (with_reducible refine LeO.bind ?_ (fun _ => ?_))
   | exact ih0 _ _ _ _
   | exact ih1 _ _ _ _ _ _
   | exact ih2 _ _ _ _ _ _ _ _ _ _ _ _ _
   | exact LeO.none _
   | refine LeO.ite ?_ ?_
   | refine LeO.bind ?_ (fun _ => ?_)
set_option maxHeartbeats 8000000 in
set_option maxRecDepth 100000 in
theorem spec_lgGood.calls (k : Nat) (a0_0 : Int) (a0_1 : Int) (A0_2 : Option Addr) (c0_2 : Nat) (l0_2 : List (S68)) (r : Bool) (w : World) (hr0_2 : Kd.C k68 w A0_2 l0_2.length l0_2) (hc0_2 : l0_2.length ≤ c0_2) (h : spec_lgGood.f k a0_0 a0_1 l0_2 = some r) :
  Calls Try.prog 43 #[.agg #[.int .i64 a0_0, .int .i64 a0_1, .slice A0_2 l0_2.length c0_2]] w fun e w' => e = .returned (.bool r) ∧ Below w.heap.size w w' := by
 have hu30 := Try.underlying30; have hu68 := Try.underlying68; have HR0_2 := a_ hr0_2; have HC0_2 := a_ hc0_2; clear hr0_2 hc0_2; have HB := a_ (Below.refl w.heap.size w); have H : ((spec_l1In.f a0_0 2 8).bind fun t109 => (if t109 = true then ((spec_l1In.f a0_1 2 3).bind fun t110 => (if t110 = true then (spec_lgGood.j0 k (decide ((l0_2.length : Int) > 56)) a0_0 a0_1 l0_2) else (spec_lgGood.j0 k true a0_0 a0_1 l0_2))) else (spec_lgGood.j0 k true a0_0 a0_1 l0_2))) = some r := h; clear h; have HC2 := a_ H; clear H
 go_enter Try.func43, Try.ntmps43
 go_upto_region 1 with (first | ((with_reducible refine gate_dst (N := 1) rfl ?_); (try (refine gate_guard (by rfl) ?_; dsimp only)); refine box_event ?hg (N := 1) ?hd (cs := #[.int .i64 a0_0, .int .i64 a0_1, .slice A0_2 l0_2.length c0_2]) (t := 30) ?hr ?_; (case hd => rfl); (case hg => rfl); (case hr => first | (go_simp; done) | (go_simp; rfl)); intro gb108 hg w3 hbox hb; have n0_ := a_ (below_step (L_ HB.out (Nat.le_refl _) (Nat.le_refl _) (Nat.le_refl _)) hb); have n1_ := a_ (hbox); have n2_ := a_ ((by rw [hg]; exact (below_size (L_ HB.out (Nat.le_refl _) (Nat.le_refl _) (Nat.le_refl _))) : w.heap.size ≤ gb108)); have n3_ := a_ ((by rw [hg]; exact (below_size (L_ HB.out (Nat.le_refl _) (Nat.le_refl _) (Nat.le_refl _))) : w.heap.size ≤ gb108)); clear HB; have HB := n0_; have BK108 := n1_; have GW108 := n2_; have GE108 := n3_; clear n0_ n1_ n2_ n3_; clear hb hbox hg))
 (try simp only [Act.put, List.setIfInBounds_toArray, List.set_cons_zero, List.set_cons_succ])
 go_cut [22] (fun v22 wc => ∃ (kq : Nat) (x22_1 : Bool), v22 = .bool x22_1 ∧ Aside0 (spec_lgGood.j0 kq x22_1 a0_0 a0_1 l0_2 = some r) ∧ Aside0 (kq ≤ k) ∧ Aside0 (wc.heap[gb108]? = some (.cells #[.int .i64 a0_0, .int .i64 a0_1, (.slice A0_2 l0_2.length c0_2)] 30 (0, 0))) ∧ Aside0 (Below w.heap.size w wc))
 case first =>
  have H := HC2.out; clear HC2; replace H := Option.bind_eq_some_iff.mp H; obtain ⟨t109, A40, H⟩ := H; replace H : (if t109 = true then ((spec_l1In.f a0_1 2 3).bind fun t110 => (if t110 = true then (spec_lgGood.j0 k (decide ((l0_2.length : Int) > 56)) a0_0 a0_1 l0_2) else (spec_lgGood.j0 k true a0_0 a0_1 l0_2))) else (spec_lgGood.j0 k true a0_0 a0_1 l0_2)) = some r := H; have A4 := a_ A40; clear A40
  by_cases c5 : t109 = true
  ·
   subst c5; have H1 : ((spec_l1In.f a0_1 2 3).bind fun t110 => (if t110 = true then (spec_lgGood.j0 k (decide ((l0_2.length : Int) > 56)) a0_0 a0_1 l0_2) else (spec_lgGood.j0 k true a0_0 a0_1 l0_2))) = some r := by rw [if_pos rfl] at H; exact H
   clear H; have H := H1; clear H1; replace H := Option.bind_eq_some_iff.mp H; obtain ⟨t110, A60, H⟩ := H; replace H : (if t110 = true then (spec_lgGood.j0 k (decide ((l0_2.length : Int) > 56)) a0_0 a0_1 l0_2) else (spec_lgGood.j0 k true a0_0 a0_1 l0_2)) = some r := H; have A6 := a_ A60; clear A60
   by_cases c7 : t110 = true
   ·
    subst c7; have H1 : (spec_lgGood.j0 k (decide ((l0_2.length : Int) > 56)) a0_0 a0_1 l0_2) = some r := by rw [if_pos rfl] at H; exact H
    clear H; have H := H1; clear H1; have H' := a_ H; clear H; have hcz8_0 : w3.cell? ⟨gb108, 0, none⟩ = some (.int .i64 a0_0) := c_ BK108.out 0; have hcz8_1 : w3.cell? ⟨gb108, 1, none⟩ = some (.int .i64 a0_1) := c_ BK108.out 1; have hcz8_2 : w3.cell? ⟨gb108, 2, none⟩ = some (.slice A0_2 l0_2.length c0_2) := c_ BK108.out 2; have hfz8_0 := blk_frozen BK108.out 0; have hfz8_1 := blk_frozen BK108.out 1; have hfz8_2 := blk_frozen BK108.out 2
    go_wp2_with (first | ((with_reducible refine gate_callee (f := 48) rfl ?_); refine goesL_ (some 9) rfl rfl Try.func48 (by kernel_rfl) rfl #[.int .i64 a0_0, .int .i64 2, .int .i64 8] rfl (by (try simp only [m1_, m2_, m3_]); first | done | rfl) ?_; (with_reducible refine (spec_l1In.calls a0_0 2 8 true _ A4.out).mono ?_); rintro e w' ⟨rfl, ⟨nd, rfl⟩⟩; refine ⟨_, rfl, ?_⟩) | (go_at_call 48; (with_reducible refine (spec_l1In.calls a0_1 2 3 true _ A6.out).mono ?_); rintro e w' ⟨rfl, ⟨nd, rfl⟩⟩))
    go_meet
    case rel => exact ⟨_, (decide ((l0_2.length : Int) > 56)), (by first | rfl | (simp; done) | (simp [*]; done)), H', ⟨by first | omega | exact Nat.le_refl _⟩, ⟨B_ BK108.out⟩, ⟨L_ HB.out GE108.out GE108.out GE108.out⟩⟩
   ·
    replace c7 := Bool.eq_false_iff.mpr c7; subst c7; have H1 : (spec_lgGood.j0 k true a0_0 a0_1 l0_2) = some r := by rw [if_neg (show ¬ (false = true) by decide)] at H; exact H
    clear H; have H := H1; clear H1; have H' := a_ H; clear H; have hcz9_0 : w3.cell? ⟨gb108, 0, none⟩ = some (.int .i64 a0_0) := c_ BK108.out 0; have hcz9_1 : w3.cell? ⟨gb108, 1, none⟩ = some (.int .i64 a0_1) := c_ BK108.out 1; have hcz9_2 : w3.cell? ⟨gb108, 2, none⟩ = some (.slice A0_2 l0_2.length c0_2) := c_ BK108.out 2; have hfz9_0 := blk_frozen BK108.out 0; have hfz9_1 := blk_frozen BK108.out 1; have hfz9_2 := blk_frozen BK108.out 2
    go_wp2_with (first | ((with_reducible refine gate_callee (f := 48) rfl ?_); refine goesL_ (some 9) rfl rfl Try.func48 (by kernel_rfl) rfl #[.int .i64 a0_0, .int .i64 2, .int .i64 8] rfl (by (try simp only [m1_, m2_, m3_]); first | done | rfl) ?_; (with_reducible refine (spec_l1In.calls a0_0 2 8 true _ A4.out).mono ?_); rintro e w' ⟨rfl, ⟨nd, rfl⟩⟩; refine ⟨_, rfl, ?_⟩) | (go_at_call 48; (with_reducible refine (spec_l1In.calls a0_1 2 3 false _ A6.out).mono ?_); rintro e w' ⟨rfl, ⟨nd, rfl⟩⟩))
    go_meet
    case rel => exact ⟨_, (true), (by first | rfl | (simp; done) | (simp [*]; done)), H', ⟨by first | omega | exact Nat.le_refl _⟩, ⟨B_ BK108.out⟩, ⟨L_ HB.out GE108.out GE108.out GE108.out⟩⟩
  ·
   replace c5 := Bool.eq_false_iff.mpr c5; subst c5; have H1 : (spec_lgGood.j0 k true a0_0 a0_1 l0_2) = some r := by rw [if_neg (show ¬ (false = true) by decide)] at H; exact H
   clear H; have H := H1; clear H1; have H' := a_ H; clear H; have hcz10_0 : w3.cell? ⟨gb108, 0, none⟩ = some (.int .i64 a0_0) := c_ BK108.out 0; have hcz10_1 : w3.cell? ⟨gb108, 1, none⟩ = some (.int .i64 a0_1) := c_ BK108.out 1; have hcz10_2 : w3.cell? ⟨gb108, 2, none⟩ = some (.slice A0_2 l0_2.length c0_2) := c_ BK108.out 2; have hfz10_0 := blk_frozen BK108.out 0; have hfz10_1 := blk_frozen BK108.out 1; have hfz10_2 := blk_frozen BK108.out 2
   go_wp2_with (first | ((with_reducible refine gate_callee (f := 48) rfl ?_); refine goesL_ (some 9) rfl rfl Try.func48 (by kernel_rfl) rfl #[.int .i64 a0_0, .int .i64 2, .int .i64 8] rfl (by (try simp only [m1_, m2_, m3_]); first | done | rfl) ?_; (with_reducible refine (spec_l1In.calls a0_0 2 8 false _ A4.out).mono ?_); rintro e w' ⟨rfl, ⟨nd, rfl⟩⟩; refine ⟨_, rfl, ?_⟩))
   go_meet
   case rel => exact ⟨_, (true), (by first | rfl | (simp; done) | (simp [*]; done)), H', ⟨by first | omega | exact Nat.le_refl _⟩, ⟨B_ BK108.out⟩, ⟨L_ HB.out GE108.out GE108.out GE108.out⟩⟩
 case rest =>
  clear HC2
  try clear p2
  try clear c4
  try clear c5
  try clear c7
  try clear hcz10_0 hcz10_1 hcz10_2
  try clear hcz8_0 hcz8_1 hcz8_2
  try clear hcz9_0 hcz9_1 hcz9_2
  try clear hfz10_0 hfz10_1 hfz10_2
  try clear hfz8_0 hfz8_1 hfz8_2
  try clear hfz9_0 hfz9_1 hfz9_2
  obtain ⟨kq, x22_1, rfl, HA, HJ1, BK108, HB⟩ := hcut
  cases kq with
  | zero => exact absurd HA.out (by simp [spec_lgGood.j0])
  | succ kj1 =>
   have H := HA.out; clear HA; simp only [spec_lgGood.j0] at H
   by_cases c11 : x22_1 = true
   ·
    subst c11; have H1 : (some false) = some r := by rw [if_pos rfl] at H; exact H
    clear H; have H := H1; clear H1; obtain rfl := Option.some.inj H
    go_wp2
    go_ret
    exact ⟨by first | rfl | (simp [errW_none, errW_some] <;> rfl) | (simp [*, errW_none, errW_some] <;> rfl), by repeat (first | (with_reducible first | exact HB.out | apply below_alloc | apply pw_below_drewN | apply below_drew1 | refine below_set ?_ GE108.out) | exact HB.out)⟩
   ·
    replace c11 := Bool.eq_false_iff.mpr c11; subst c11; have H1 : (spec_lgGood.l0 kj1 l0_2 (l0_2.length : Int) 0 a0_0 a0_1 l0_2) = some r := by rw [if_neg (show ¬ (false = true) by decide)] at H; exact H
    clear H; have H := H1; clear H1; have H' := a_ H; clear H; have hcz12_0 : wc.cell? ⟨gb108, 0, none⟩ = some (.int .i64 a0_0) := c_ BK108.out 0; have hcz12_1 : wc.cell? ⟨gb108, 1, none⟩ = some (.int .i64 a0_1) := c_ BK108.out 1; have hcz12_2 : wc.cell? ⟨gb108, 2, none⟩ = some (.slice A0_2 l0_2.length c0_2) := c_ BK108.out 2; have hfz12_0 := blk_frozen BK108.out 0; have hfz12_1 := blk_frozen BK108.out 1; have hfz12_2 := blk_frozen BK108.out 2
    go_wp2
    go_loopg [26] kj1 (fun kq v26 w' => ∃ (x26_2 : Int), v26 = .int .i64 x26_2 ∧ Aside0 (spec_lgGood.l0 kq l0_2 (l0_2.length : Int) x26_2 a0_0 a0_1 l0_2 = some r) ∧ Aside0 (kq ≤ kj1) ∧ Aside0 (w'.heap[gb108]? = some (.cells #[.int .i64 a0_0, .int .i64 a0_1, (.slice A0_2 l0_2.length c0_2)] 30 (0, 0))) ∧ Aside0 (Below w.heap.size w w'))
    case atStart => exact ⟨(0), (by first | rfl | (simp; done) | (simp [*]; done)), H', ⟨Nat.le_refl _⟩, ⟨B_ BK108.out⟩, ⟨L_ HB.out GE108.out GE108.out GE108.out⟩⟩
    case round =>
     clear H'
     try clear c1
     try clear p2
     try clear c4
     try clear c5
     try clear c7
     try clear c11
     try clear hcz10_0 hcz10_1 hcz10_2
     try clear hcz12_0 hcz12_1 hcz12_2
     try clear hcz8_0 hcz8_1 hcz8_2
     try clear hcz9_0 hcz9_1 hcz9_2
     try clear hfz10_0 hfz10_1 hfz10_2
     try clear hfz12_0 hfz12_1 hfz12_2
     try clear hfz8_0 hfz8_1 hfz8_2
     try clear hfz9_0 hfz9_1 hfz9_2
     try clear p2
     obtain ⟨x26_2, rfl, HA, HK2, BK108, HB⟩ := hrel
     cases gk with
     | zero => exact absurd HA.out (by simp [spec_lgGood.l0])
     | succ k2 =>
      have H := HA.out; clear HA; simp only [spec_lgGood.l0] at H
      by_cases c13 : x26_2 < (l0_2.length : Int)
      ·
       rw [if_pos c13] at H; have c13b0 : decide (x26_2 < (l0_2.length : Int)) = true := decide_eq_true c13; clear c13
       by_cases c14 : 0 ≤ x26_2
       ·
        rw [if_pos c14] at H; have c14b0 : decide (0 ≤ x26_2) = true := decide_eq_true c14; clear c14
        by_cases c15 : x26_2 < (l0_2.length : Int)
        ·
         rw [if_pos c15] at H; have c15b0 : decide (x26_2 < (l0_2.length : Int)) = true := decide_eq_true c15; clear c15; replace H := Option.bind_eq_some_iff.mp H; obtain ⟨t113, A160, H⟩ := H; replace H : (if t113 = true then (if x26_2 ≤ (l0_2.length : Int) then ((some (l0_2.take (x26_2 : Int).toNat : List (S68))).bind fun y114 => (spec_lgGood.l1 k2 l0_2 (l0_2.length : Int) x26_2 y114 (y114.length : Int) 0 a0_0 a0_1 l0_2 ((rd_T68 l0_2 x26_2).f0) ((rd_T68 l0_2 x26_2).f1) ((rd_T68 l0_2 x26_2).f2) ((rd_T68 l0_2 x26_2).f3))) else (none)) else (some false)) = some r := H; have A16 := a_ A160; clear A160
         by_cases c17 : t113 = true
         ·
          subst c17; have H1 : (if x26_2 ≤ (l0_2.length : Int) then ((some (l0_2.take (x26_2 : Int).toNat : List (S68))).bind fun y114 => (spec_lgGood.l1 k2 l0_2 (l0_2.length : Int) x26_2 y114 (y114.length : Int) 0 a0_0 a0_1 l0_2 ((rd_T68 l0_2 x26_2).f0) ((rd_T68 l0_2 x26_2).f1) ((rd_T68 l0_2 x26_2).f2) ((rd_T68 l0_2 x26_2).f3))) else (none)) = some r := by rw [if_pos rfl] at H; exact H
          clear H; have H := H1; clear H1; have c18b0 := eq_true (of_decide_eq_true (by first | (with_reducible assumption) | assumption) : 0 ≤ x26_2)
          by_cases c19 : x26_2 ≤ (l0_2.length : Int)
          ·
           rw [if_pos c19] at H; have c19b0 := eq_true c19; have c19b1 : decide (x26_2 ≤ (l0_2.length : Int)) = true := decide_eq_true c19; clear c19; obtain ⟨y114, hy114⟩ : ∃ y_ : List (S68), y_ = (l0_2.take (x26_2 : Int).toNat) := ⟨_, rfl⟩; replace H : (spec_lgGood.l1 k2 l0_2 (l0_2.length : Int) x26_2 y114 (y114.length : Int) 0 a0_0 a0_1 l0_2 ((rd_T68 l0_2 x26_2).f0) ((rd_T68 l0_2 x26_2).f1) ((rd_T68 l0_2 x26_2).f2) ((rd_T68 l0_2 x26_2).f3)) = some r := by first | (rw [hy114]; with_reducible exact H) | (have H2_ := (Option.bind_some _ _).symm.trans H; rw [hy114]; with_reducible exact H2_) | (have H2_ := (Option.bind_some _ _).symm.trans H; with_reducible exact H2_) | with_reducible exact H | (rw [hy114]; exact H) | exact H
           have Ny114 := a_ hy114; clear hy114; have H' := a_ H; clear H; have p111 : 0 ≤ (x26_2 : Int) := of_decide_eq_true (by first | (with_reducible assumption) | assumption); have q111 : x26_2 < (l0_2.length : Int) := of_decide_eq_true (by first | (with_reducible assumption) | assumption); obtain ⟨ad111, e111, hx111_0, hx111_1, hx111_2, hx111_3⟩ := at_T68 HR0_2.out x26_2 p111 q111
           cases e111
           replace hx111_0 := (HB.out.cell (World.block_lt_of_cell? w _ hx111_0)).trans hx111_0; replace hx111_1 := (HB.out.cell (World.block_lt_of_cell? w _ hx111_1)).trans hx111_1; replace hx111_2 := (HB.out.cell (World.block_lt_of_cell? w _ hx111_2)).trans hx111_2; replace hx111_3 := (HB.out.cell (World.block_lt_of_cell? w _ hx111_3)).trans hx111_3; replace p111 := eq_true p111; replace q111 := eq_true q111
           go_wp2_with (first | ((with_reducible refine gate_dst (N := 4) rfl ?_); (try (refine gate_guard (by rfl) ?_; dsimp only)); refine box_event ?hg (N := 4) ?hd (cs := #[.int .i64 0, .int .i64 0, .int .i64 0, .int .i64 0]) (t := 68) ?hr ?_; (case hd => rfl); (case hg => rfl); (case hr => first | (go_simp; done) | (go_simp; rfl)); intro gb112 hg w20 hbox hb; have n0_ := bb_ BK108 hb; have n1_ := a_ (below_step (L_ HB.out GE108.out GE108.out GE108.out) hb); have n2_ := a_ (hbox); have n3_ := a_ ((by rw [hg]; exact (below_size (L_ HB.out GE108.out GE108.out GE108.out)) : w.heap.size ≤ gb112)); have n4_ := a_ ((by rw [hg]; exact (below_size (L_ HB.out GE108.out GE108.out GE108.out)) : w.heap.size ≤ gb112)); have n5_ := a_ ((by rw [hg]; exact Nat.ne_of_lt (blk_lt (B_ BK108.out)) : gb108 ≠ gb112)); have n6_ := a_ ((by rw [hg]; exact Nat.ne_of_gt (blk_lt (B_ BK108.out)) : gb112 ≠ gb108)); clear BK108; clear HB; have BK108 := n0_; have HB := n1_; have BK112 := n2_; have GW112 := n3_; have GE112 := n4_; have NB108_112 := n5_; have NB112_108 := n6_; clear n0_ n1_ n2_ n3_ n4_ n5_ n6_; clear hb hbox hg; have hnb21 := NB112_108.out; have hnc21 := NB108_112.out; have hcz22_0 : w20.cell? ⟨gb112, 0, none⟩ = some (.int .i64 0) := c_ BK112.out 0; have hcz22_1 : w20.cell? ⟨gb112, 1, none⟩ = some (.int .i64 0) := c_ BK112.out 1; have hcz22_2 : w20.cell? ⟨gb112, 2, none⟩ = some (.int .i64 0) := c_ BK112.out 2; have hcz22_3 : w20.cell? ⟨gb112, 3, none⟩ = some (.int .i64 0) := c_ BK112.out 3; have hfz22_0 := blk_frozen BK112.out 0; have hfz22_1 := blk_frozen BK112.out 1; have hfz22_2 := blk_frozen BK112.out 2; have hfz22_3 := blk_frozen BK112.out 3; have hcz23_0 : w20.cell? ⟨gb108, 0, none⟩ = some (.int .i64 a0_0) := c_ BK108.out 0; have hcz23_1 : w20.cell? ⟨gb108, 1, none⟩ = some (.int .i64 a0_1) := c_ BK108.out 1; have hcz23_2 : w20.cell? ⟨gb108, 2, none⟩ = some (.slice (some ad111) l0_2.length c0_2) := c_ BK108.out 2; have hfz23_0 := blk_frozen BK108.out 0; have hfz23_1 := blk_frozen BK108.out 1; have hfz23_2 := blk_frozen BK108.out 2) | ((with_reducible refine gate_callee (f := 59) rfl ?_); refine goesL_ (some 34) rfl rfl Try.func59 (by kernel_rfl) rfl #[.int .i64 a0_0, .agg #[.int .i64 ((rd_T68 l0_2 x26_2).f0), .int .i64 ((rd_T68 l0_2 x26_2).f1), .int .i64 ((rd_T68 l0_2 x26_2).f2), .int .i64 ((rd_T68 l0_2 x26_2).f3)]] rfl (by (try simp only [m1_, m2_, m3_]); first | done | rfl) ?_; (with_reducible refine (spec_lgResult.calls a0_0 ((rd_T68 l0_2 x26_2).f0) ((rd_T68 l0_2 x26_2).f1) ((rd_T68 l0_2 x26_2).f2) ((rd_T68 l0_2 x26_2).f3) true _ A16.out).mono ?_); rintro e w24 ⟨rfl, hb⟩; refine ⟨_, rfl, ?_⟩; have n0_ := a_ (blk_below (g := gb108) (o := .cells #[.int .i64 a0_0, .int .i64 a0_1, .slice (some ad111) l0_2.length c0_2] 30 (0, 0)) (by (with_reducible repeat (first | refine blk_drewN ?_ _ | refine blk_drew ?_ | refine blk_alloc ?_ _)); refine blk_far ?_ NB108_112.out _; refine blk_far ?_ NB108_112.out _; refine blk_far ?_ NB108_112.out _; refine blk_far ?_ NB108_112.out _; exact B_ BK108.out) hb); have n1_ := a_ (blk_below (g := gb112) (o := .cells #[.int .i64 ((rd_T68 l0_2 x26_2).f0), .int .i64 ((rd_T68 l0_2 x26_2).f1), .int .i64 ((rd_T68 l0_2 x26_2).f2), .int .i64 ((rd_T68 l0_2 x26_2).f3)] 68 (0, 0)) (by (with_reducible repeat (first | refine blk_drewN ?_ _ | refine blk_drew ?_ | refine blk_alloc ?_ _)); refine blk_put (cs := #[.int .i64 ((rd_T68 l0_2 x26_2).f0), .int .i64 ((rd_T68 l0_2 x26_2).f1), .int .i64 ((rd_T68 l0_2 x26_2).f2), .int .i64 0]) ?_ 3 _ rfl; (with_reducible repeat (first | refine blk_drewN ?_ _ | refine blk_drew ?_ | refine blk_alloc ?_ _)); refine blk_put (cs := #[.int .i64 ((rd_T68 l0_2 x26_2).f0), .int .i64 ((rd_T68 l0_2 x26_2).f1), .int .i64 0, .int .i64 0]) ?_ 2 _ rfl; (with_reducible repeat (first | refine blk_drewN ?_ _ | refine blk_drew ?_ | refine blk_alloc ?_ _)); refine blk_put (cs := #[.int .i64 ((rd_T68 l0_2 x26_2).f0), .int .i64 0, .int .i64 0, .int .i64 0]) ?_ 1 _ rfl; (with_reducible repeat (first | refine blk_drewN ?_ _ | refine blk_drew ?_ | refine blk_alloc ?_ _)); refine blk_put (cs := #[.int .i64 0, .int .i64 0, .int .i64 0, .int .i64 0]) ?_ 0 _ rfl; exact B_ BK112.out) hb); have n2_ := a_ (below_step (L_ HB.out GE108.out GE112.out GE112.out) hb); clear BK108; clear BK112; clear HB; have BK108 := n0_; have BK112 := n1_; have HB := n2_; clear n0_ n1_ n2_; (try clear hb); (try clear hb2); (try clear hk); (try clear hi); have hcz25_0 : w24.cell? ⟨gb108, 0, none⟩ = some (.int .i64 a0_0) := c_ BK108.out 0; have hcz25_1 : w24.cell? ⟨gb108, 1, none⟩ = some (.int .i64 a0_1) := c_ BK108.out 1; have hcz25_2 : w24.cell? ⟨gb108, 2, none⟩ = some (.slice (some ad111) l0_2.length c0_2) := c_ BK108.out 2; have hfz25_0 := blk_frozen BK108.out 0; have hfz25_1 := blk_frozen BK108.out 1; have hfz25_2 := blk_frozen BK108.out 2; have q26 : (x26_2 : Int) ≤ ((l0_2.length : Int) : Int) := of_decide_eq_true (by first | (with_reducible assumption) | assumption); obtain ⟨i026, hi026, _, hsz26, _⟩ := info_parts info68; have hroom26 : l0_2.length ≤ c0_2 := HC0_2.out; have hC26 : Kd.C k68 _ (some ad111) l0_2.length l0_2 := HR0_2.out; have hcut26 := cut_to (P := Try.prog) 28 68 .i64 Try.underlying28 hi026 (some ad111) l0_2.length c0_2 x26_2 (of_decide_eq_true (by first | (with_reducible assumption) | assumption)) q26 hroom26; have hr26 := Kd.C_take (m := (x26_2 : Int).toNat) hC26 (by omega); have hy26 : y114.length = (x26_2 : Int).toNat := (by rw [Ny114.out, List.length_take]; omega); rw [← Ny114.out] at hr26; rw [← hy26] at hcut26; have HR117 := a_ hr26; have HC117 := a_ (show y114.length ≤ c0_2 from by omega); clear hr26 hC26 hroom26 hi026 hsz26; have KY26 := a_ hy26; clear hy26; replace q26 := eq_true q26))
           go_loopg [41] k2 (fun kq v41 w' => ∃ (x41_3 : Int), v41 = .int .i64 x41_3 ∧ Aside0 (spec_lgGood.l1 kq l0_2 (l0_2.length : Int) x26_2 y114 (y114.length : Int) x41_3 a0_0 a0_1 l0_2 ((rd_T68 l0_2 x26_2).f0) ((rd_T68 l0_2 x26_2).f1) ((rd_T68 l0_2 x26_2).f2) ((rd_T68 l0_2 x26_2).f3) = some r) ∧ Aside0 (kq ≤ k2) ∧ Aside0 (w'.heap[gb108]? = some (.cells #[.int .i64 a0_0, .int .i64 a0_1, (.slice (some ad111) l0_2.length c0_2)] 30 (0, 0))) ∧ Aside0 (w'.heap[gb112]? = some (.cells #[.int .i64 ((rd_T68 l0_2 x26_2).f0), .int .i64 ((rd_T68 l0_2 x26_2).f1), .int .i64 ((rd_T68 l0_2 x26_2).f2), .int .i64 ((rd_T68 l0_2 x26_2).f3)] 68 (0, 0))) ∧ Aside0 (Below w.heap.size w w'))
           case atStart => exact ⟨(0), (by first | rfl | (simp; done) | (simp [*]; done)), H', ⟨Nat.le_refl _⟩, ⟨B_ BK108.out⟩, ⟨B_ BK112.out⟩, ⟨L_ HB.out GE108.out GE112.out GE112.out⟩⟩
           case round =>
            clear H'
            try clear c1
            try clear p1
            try clear q1
            try clear hx1
            try clear c2
            try clear p2
            try clear q2
            try clear c4
            try clear c5
            try clear c7
            try clear c11
            try clear p11
            try clear q11
            try clear hx11
            try clear c13
            try clear c13b0
            try clear c14
            try clear c14b0
            try clear c15
            try clear c15b0
            try clear c17
            try clear c18
            try clear c18b0
            try clear c19
            try clear c19b0
            try clear c19b1
            try clear c21
            try clear q26
            try clear hcz10_0 hcz10_1 hcz10_2
            try clear hcz12_0 hcz12_1 hcz12_2
            try clear hcz22_0 hcz22_1 hcz22_2 hcz22_3
            try clear hcz23_0 hcz23_1 hcz23_2
            try clear hcz25_0 hcz25_1 hcz25_2
            try clear hcz8_0 hcz8_1 hcz8_2
            try clear hcz9_0 hcz9_1 hcz9_2
            try clear hfz10_0 hfz10_1 hfz10_2
            try clear hfz12_0 hfz12_1 hfz12_2
            try clear hfz22_0 hfz22_1 hfz22_2 hfz22_3
            try clear hfz23_0 hfz23_1 hfz23_2
            try clear hfz25_0 hfz25_1 hfz25_2
            try clear hfz8_0 hfz8_1 hfz8_2
            try clear hfz9_0 hfz9_1 hfz9_2
            try clear hx111_0
            try clear hx111_1
            try clear hx111_2
            try clear hx111_3
            try clear p111
            try clear p2
            try clear q111
            try clear q26
            obtain ⟨x41_3, rfl, HA, HK3, BK108, BK112, HB⟩ := hrel
            cases gk with
            | zero => exact absurd HA.out (by simp [spec_lgGood.l1])
            | succ k3 =>
             have H := HA.out; clear HA; simp only [spec_lgGood.l1] at H
             by_cases c27 : x41_3 < (y114.length : Int)
             ·
              rw [if_pos c27] at H; have c27b0 : decide (x41_3 < (y114.length : Int)) = true := decide_eq_true c27; clear c27
              by_cases c28 : 0 ≤ x41_3
              ·
               rw [if_pos c28] at H; have c28b0 : decide (0 ≤ x41_3) = true := decide_eq_true c28; clear c28
               by_cases c29 : x41_3 < (y114.length : Int)
               ·
                rw [if_pos c29] at H; have c29b0 : decide (x41_3 < (y114.length : Int)) = true := decide_eq_true c29; clear c29
                by_cases c30 : ((rd_T68 y114 x41_3).f0) = ((rd_T68 l0_2 x26_2).f0)
                ·
                 rw [if_pos c30] at H; have c30b0 : (((rd_T68 y114 x41_3).f0) == ((rd_T68 l0_2 x26_2).f0)) = true := beq_iff_eq.mpr c30; have c30b1 : (((rd_T68 y114 x41_3).f0) != ((rd_T68 l0_2 x26_2).f0)) = false := bne_eq_false_iff_eq.mpr c30; clear c30
                 by_cases c31 : ((rd_T68 y114 x41_3).f1) = ((rd_T68 l0_2 x26_2).f1)
                 ·
                  rw [if_pos c31] at H; have c31b0 : (((rd_T68 y114 x41_3).f1) == ((rd_T68 l0_2 x26_2).f1)) = true := beq_iff_eq.mpr c31; have c31b1 : (((rd_T68 y114 x41_3).f1) != ((rd_T68 l0_2 x26_2).f1)) = false := bne_eq_false_iff_eq.mpr c31; clear c31; obtain rfl := Option.some.inj H; have p118 : 0 ≤ (x41_3 : Int) := of_decide_eq_true (by first | (with_reducible assumption) | assumption); have q118 : x41_3 < (y114.length : Int) := of_decide_eq_true (by first | (with_reducible assumption) | assumption); obtain ⟨ad118, e118, hx118_0, hx118_1, hx118_2, hx118_3⟩ := at_T68 HR117.out x41_3 p118 q118; obtain rfl : ad111 = ad118 := (by injection e118); replace hx118_0 := (HB.out.cell (World.block_lt_of_cell? w _ hx118_0)).trans hx118_0; replace hx118_1 := (HB.out.cell (World.block_lt_of_cell? w _ hx118_1)).trans hx118_1; replace hx118_2 := (HB.out.cell (World.block_lt_of_cell? w _ hx118_2)).trans hx118_2; replace hx118_3 := (HB.out.cell (World.block_lt_of_cell? w _ hx118_3)).trans hx118_3; replace p118 := eq_true p118; replace q118 := eq_true q118
                  go_wp2_with (first | ((with_reducible refine gate_dst (N := 6) rfl ?_); (try (refine gate_guard (by rfl) ?_; dsimp only)); refine box_event ?hg (N := 6) ?hd (cs := #[.int .i64 0, .int .i64 0, .int .i64 0, .int .i64 0]) (t := 68) ?hr ?_; (case hd => rfl); (case hg => rfl); (case hr => first | (go_simp; done) | (go_simp; rfl)); intro gb119 hg w32 hbox hb; have n0_ := bb_ BK108 hb; have n1_ := bb_ BK112 hb; have n2_ := a_ (below_step (L_ HB.out GE108.out GE112.out GE112.out) hb); have n3_ := a_ (hbox); have n4_ := a_ ((by rw [hg]; exact (below_size (L_ HB.out GE108.out GE112.out GE112.out)) : w.heap.size ≤ gb119)); have n5_ := a_ ((by rw [hg]; exact (below_size (L_ HB.out GE108.out GE112.out GE112.out)) : w.heap.size ≤ gb119)); have n6_ := a_ ((by rw [hg]; exact Nat.ne_of_lt (blk_lt (B_ BK108.out)) : gb108 ≠ gb119)); have n7_ := a_ ((by rw [hg]; exact Nat.ne_of_gt (blk_lt (B_ BK108.out)) : gb119 ≠ gb108)); have n8_ := a_ ((by rw [hg]; exact Nat.ne_of_lt (blk_lt (B_ BK112.out)) : gb112 ≠ gb119)); have n9_ := a_ ((by rw [hg]; exact Nat.ne_of_gt (blk_lt (B_ BK112.out)) : gb119 ≠ gb112)); clear BK108; clear BK112; clear HB; have BK108 := n0_; have BK112 := n1_; have HB := n2_; have BK119 := n3_; have GW119 := n4_; have GE119 := n5_; have NB108_119 := n6_; have NB119_108 := n7_; have NB112_119 := n8_; have NB119_112 := n9_; clear n0_ n1_ n2_ n3_ n4_ n5_ n6_ n7_ n8_ n9_; clear hb hbox hg; have hnb33 := NB119_108.out; have hnc33 := NB108_119.out; have hnb34 := NB119_112.out; have hnc34 := NB112_119.out; have hcz35_0 : w32.cell? ⟨gb119, 0, none⟩ = some (.int .i64 0) := c_ BK119.out 0; have hcz35_1 : w32.cell? ⟨gb119, 1, none⟩ = some (.int .i64 0) := c_ BK119.out 1; have hcz35_2 : w32.cell? ⟨gb119, 2, none⟩ = some (.int .i64 0) := c_ BK119.out 2; have hcz35_3 : w32.cell? ⟨gb119, 3, none⟩ = some (.int .i64 0) := c_ BK119.out 3; have hfz35_0 := blk_frozen BK119.out 0; have hfz35_1 := blk_frozen BK119.out 1; have hfz35_2 := blk_frozen BK119.out 2; have hfz35_3 := blk_frozen BK119.out 3; have hnb36 := NB112_108.out; have hnc36 := NB108_112.out; have hcz37_0 : w32.cell? ⟨gb112, 0, none⟩ = some (.int .i64 ((rd_T68 l0_2 x26_2).f0)) := c_ BK112.out 0; have hcz37_1 : w32.cell? ⟨gb112, 1, none⟩ = some (.int .i64 ((rd_T68 l0_2 x26_2).f1)) := c_ BK112.out 1; have hcz37_2 : w32.cell? ⟨gb112, 2, none⟩ = some (.int .i64 ((rd_T68 l0_2 x26_2).f2)) := c_ BK112.out 2; have hcz37_3 : w32.cell? ⟨gb112, 3, none⟩ = some (.int .i64 ((rd_T68 l0_2 x26_2).f3)) := c_ BK112.out 3; have hfz37_0 := blk_frozen BK112.out 0; have hfz37_1 := blk_frozen BK112.out 1; have hfz37_2 := blk_frozen BK112.out 2; have hfz37_3 := blk_frozen BK112.out 3))
                  go_ret
                  exact ⟨by first | rfl | (simp [errW_none, errW_some] <;> rfl) | (simp [*, errW_none, errW_some] <;> rfl), by repeat (first | (with_reducible first | exact HB.out | apply below_alloc | apply pw_below_drewN | apply below_drew1 | refine below_set ?_ GE108.out | refine below_set ?_ GE112.out | refine below_set ?_ GE119.out) | exact HB.out)⟩
                 ·
                  rw [if_neg c31] at H; have c31b0 : (((rd_T68 y114 x41_3).f1) == ((rd_T68 l0_2 x26_2).f1)) = false := beq_eq_false_iff_ne.mpr c31; have c31b1 : (((rd_T68 y114 x41_3).f1) != ((rd_T68 l0_2 x26_2).f1)) = true := bne_iff_ne.mpr c31; have H' := a_ H; clear H; have p118 : 0 ≤ (x41_3 : Int) := of_decide_eq_true (by first | (with_reducible assumption) | assumption); have q118 : x41_3 < (y114.length : Int) := of_decide_eq_true (by first | (with_reducible assumption) | assumption); obtain ⟨ad118, e118, hx118_0, hx118_1, hx118_2, hx118_3⟩ := at_T68 HR117.out x41_3 p118 q118; obtain rfl : ad111 = ad118 := (by injection e118); replace hx118_0 := (HB.out.cell (World.block_lt_of_cell? w _ hx118_0)).trans hx118_0; replace hx118_1 := (HB.out.cell (World.block_lt_of_cell? w _ hx118_1)).trans hx118_1; replace hx118_2 := (HB.out.cell (World.block_lt_of_cell? w _ hx118_2)).trans hx118_2; replace hx118_3 := (HB.out.cell (World.block_lt_of_cell? w _ hx118_3)).trans hx118_3; replace p118 := eq_true p118; replace q118 := eq_true q118
                  go_wp2_with (first | ((with_reducible refine gate_dst (N := 6) rfl ?_); (try (refine gate_guard (by rfl) ?_; dsimp only)); refine box_event ?hg (N := 6) ?hd (cs := #[.int .i64 0, .int .i64 0, .int .i64 0, .int .i64 0]) (t := 68) ?hr ?_; (case hd => rfl); (case hg => rfl); (case hr => first | (go_simp; done) | (go_simp; rfl)); intro gb119 hg w38 hbox hb; have n0_ := bb_ BK108 hb; have n1_ := bb_ BK112 hb; have n2_ := a_ (below_step (L_ HB.out GE108.out GE112.out GE112.out) hb); have n3_ := a_ (hbox); have n4_ := a_ ((by rw [hg]; exact (below_size (L_ HB.out GE108.out GE112.out GE112.out)) : w.heap.size ≤ gb119)); have n5_ := a_ ((by rw [hg]; exact (below_size (L_ HB.out GE108.out GE112.out GE112.out)) : w.heap.size ≤ gb119)); have n6_ := a_ ((by rw [hg]; exact Nat.ne_of_lt (blk_lt (B_ BK108.out)) : gb108 ≠ gb119)); have n7_ := a_ ((by rw [hg]; exact Nat.ne_of_gt (blk_lt (B_ BK108.out)) : gb119 ≠ gb108)); have n8_ := a_ ((by rw [hg]; exact Nat.ne_of_lt (blk_lt (B_ BK112.out)) : gb112 ≠ gb119)); have n9_ := a_ ((by rw [hg]; exact Nat.ne_of_gt (blk_lt (B_ BK112.out)) : gb119 ≠ gb112)); clear BK108; clear BK112; clear HB; have BK108 := n0_; have BK112 := n1_; have HB := n2_; have BK119 := n3_; have GW119 := n4_; have GE119 := n5_; have NB108_119 := n6_; have NB119_108 := n7_; have NB112_119 := n8_; have NB119_112 := n9_; clear n0_ n1_ n2_ n3_ n4_ n5_ n6_ n7_ n8_ n9_; clear hb hbox hg; have hnb39 := NB119_108.out; have hnc39 := NB108_119.out; have hnb40 := NB119_112.out; have hnc40 := NB112_119.out; have hcz41_0 : w38.cell? ⟨gb119, 0, none⟩ = some (.int .i64 0) := c_ BK119.out 0; have hcz41_1 : w38.cell? ⟨gb119, 1, none⟩ = some (.int .i64 0) := c_ BK119.out 1; have hcz41_2 : w38.cell? ⟨gb119, 2, none⟩ = some (.int .i64 0) := c_ BK119.out 2; have hcz41_3 : w38.cell? ⟨gb119, 3, none⟩ = some (.int .i64 0) := c_ BK119.out 3; have hfz41_0 := blk_frozen BK119.out 0; have hfz41_1 := blk_frozen BK119.out 1; have hfz41_2 := blk_frozen BK119.out 2; have hfz41_3 := blk_frozen BK119.out 3; have hnb42 := NB112_108.out; have hnc42 := NB108_112.out; have hcz43_0 : w38.cell? ⟨gb112, 0, none⟩ = some (.int .i64 ((rd_T68 l0_2 x26_2).f0)) := c_ BK112.out 0; have hcz43_1 : w38.cell? ⟨gb112, 1, none⟩ = some (.int .i64 ((rd_T68 l0_2 x26_2).f1)) := c_ BK112.out 1; have hcz43_2 : w38.cell? ⟨gb112, 2, none⟩ = some (.int .i64 ((rd_T68 l0_2 x26_2).f2)) := c_ BK112.out 2; have hcz43_3 : w38.cell? ⟨gb112, 3, none⟩ = some (.int .i64 ((rd_T68 l0_2 x26_2).f3)) := c_ BK112.out 3; have hfz43_0 := blk_frozen BK112.out 0; have hfz43_1 := blk_frozen BK112.out 1; have hfz43_2 := blk_frozen BK112.out 2; have hfz43_3 := blk_frozen BK112.out 3))
                  go_roundg k3
                  case measure => have := HJ1.out; have := HK2.out; have := HK3.out; omega
                  case rel => exact ⟨(wrap64 (x41_3 + 1)), (by first | rfl | (simp; done) | (simp [*]; done)), H', ⟨by have := HJ1.out; have := HK2.out; have := HK3.out; omega⟩, ⟨by (with_reducible repeat (first | refine blk_drewN ?_ _ | refine blk_drew ?_ | refine blk_alloc ?_ _)); refine blk_far ?_ NB108_119.out _; refine blk_far ?_ NB108_119.out _; refine blk_far ?_ NB108_119.out _; refine blk_far ?_ NB108_119.out _; exact B_ BK108.out⟩, ⟨by (with_reducible repeat (first | refine blk_drewN ?_ _ | refine blk_drew ?_ | refine blk_alloc ?_ _)); refine blk_far ?_ NB112_119.out _; refine blk_far ?_ NB112_119.out _; refine blk_far ?_ NB112_119.out _; refine blk_far ?_ NB112_119.out _; exact B_ BK112.out⟩, ⟨L_ HB.out GE108.out GE112.out GE119.out⟩⟩
                ·
                 rw [if_neg c30] at H; have c30b0 : (((rd_T68 y114 x41_3).f0) == ((rd_T68 l0_2 x26_2).f0)) = false := beq_eq_false_iff_ne.mpr c30; have c30b1 : (((rd_T68 y114 x41_3).f0) != ((rd_T68 l0_2 x26_2).f0)) = true := bne_iff_ne.mpr c30; have H' := a_ H; clear H; have p118 : 0 ≤ (x41_3 : Int) := of_decide_eq_true (by first | (with_reducible assumption) | assumption); have q118 : x41_3 < (y114.length : Int) := of_decide_eq_true (by first | (with_reducible assumption) | assumption); obtain ⟨ad118, e118, hx118_0, hx118_1, hx118_2, hx118_3⟩ := at_T68 HR117.out x41_3 p118 q118; obtain rfl : ad111 = ad118 := (by injection e118); replace hx118_0 := (HB.out.cell (World.block_lt_of_cell? w _ hx118_0)).trans hx118_0; replace hx118_1 := (HB.out.cell (World.block_lt_of_cell? w _ hx118_1)).trans hx118_1; replace hx118_2 := (HB.out.cell (World.block_lt_of_cell? w _ hx118_2)).trans hx118_2; replace hx118_3 := (HB.out.cell (World.block_lt_of_cell? w _ hx118_3)).trans hx118_3; replace p118 := eq_true p118; replace q118 := eq_true q118
                 go_wp2_with (first | ((with_reducible refine gate_dst (N := 6) rfl ?_); (try (refine gate_guard (by rfl) ?_; dsimp only)); refine box_event ?hg (N := 6) ?hd (cs := #[.int .i64 0, .int .i64 0, .int .i64 0, .int .i64 0]) (t := 68) ?hr ?_; (case hd => rfl); (case hg => rfl); (case hr => first | (go_simp; done) | (go_simp; rfl)); intro gb119 hg w44 hbox hb; have n0_ := bb_ BK108 hb; have n1_ := bb_ BK112 hb; have n2_ := a_ (below_step (L_ HB.out GE108.out GE112.out GE112.out) hb); have n3_ := a_ (hbox); have n4_ := a_ ((by rw [hg]; exact (below_size (L_ HB.out GE108.out GE112.out GE112.out)) : w.heap.size ≤ gb119)); have n5_ := a_ ((by rw [hg]; exact (below_size (L_ HB.out GE108.out GE112.out GE112.out)) : w.heap.size ≤ gb119)); have n6_ := a_ ((by rw [hg]; exact Nat.ne_of_lt (blk_lt (B_ BK108.out)) : gb108 ≠ gb119)); have n7_ := a_ ((by rw [hg]; exact Nat.ne_of_gt (blk_lt (B_ BK108.out)) : gb119 ≠ gb108)); have n8_ := a_ ((by rw [hg]; exact Nat.ne_of_lt (blk_lt (B_ BK112.out)) : gb112 ≠ gb119)); have n9_ := a_ ((by rw [hg]; exact Nat.ne_of_gt (blk_lt (B_ BK112.out)) : gb119 ≠ gb112)); clear BK108; clear BK112; clear HB; have BK108 := n0_; have BK112 := n1_; have HB := n2_; have BK119 := n3_; have GW119 := n4_; have GE119 := n5_; have NB108_119 := n6_; have NB119_108 := n7_; have NB112_119 := n8_; have NB119_112 := n9_; clear n0_ n1_ n2_ n3_ n4_ n5_ n6_ n7_ n8_ n9_; clear hb hbox hg; have hnb45 := NB119_108.out; have hnc45 := NB108_119.out; have hnb46 := NB119_112.out; have hnc46 := NB112_119.out; have hcz47_0 : w44.cell? ⟨gb119, 0, none⟩ = some (.int .i64 0) := c_ BK119.out 0; have hcz47_1 : w44.cell? ⟨gb119, 1, none⟩ = some (.int .i64 0) := c_ BK119.out 1; have hcz47_2 : w44.cell? ⟨gb119, 2, none⟩ = some (.int .i64 0) := c_ BK119.out 2; have hcz47_3 : w44.cell? ⟨gb119, 3, none⟩ = some (.int .i64 0) := c_ BK119.out 3; have hfz47_0 := blk_frozen BK119.out 0; have hfz47_1 := blk_frozen BK119.out 1; have hfz47_2 := blk_frozen BK119.out 2; have hfz47_3 := blk_frozen BK119.out 3; have hnb48 := NB112_108.out; have hnc48 := NB108_112.out; have hcz49_0 : w44.cell? ⟨gb112, 0, none⟩ = some (.int .i64 ((rd_T68 l0_2 x26_2).f0)) := c_ BK112.out 0; have hcz49_1 : w44.cell? ⟨gb112, 1, none⟩ = some (.int .i64 ((rd_T68 l0_2 x26_2).f1)) := c_ BK112.out 1; have hcz49_2 : w44.cell? ⟨gb112, 2, none⟩ = some (.int .i64 ((rd_T68 l0_2 x26_2).f2)) := c_ BK112.out 2; have hcz49_3 : w44.cell? ⟨gb112, 3, none⟩ = some (.int .i64 ((rd_T68 l0_2 x26_2).f3)) := c_ BK112.out 3; have hfz49_0 := blk_frozen BK112.out 0; have hfz49_1 := blk_frozen BK112.out 1; have hfz49_2 := blk_frozen BK112.out 2; have hfz49_3 := blk_frozen BK112.out 3))
                 go_roundg k3
                 case measure => have := HJ1.out; have := HK2.out; have := HK3.out; omega
                 case rel => exact ⟨(wrap64 (x41_3 + 1)), (by first | rfl | (simp; done) | (simp [*]; done)), H', ⟨by have := HJ1.out; have := HK2.out; have := HK3.out; omega⟩, ⟨by (with_reducible repeat (first | refine blk_drewN ?_ _ | refine blk_drew ?_ | refine blk_alloc ?_ _)); refine blk_far ?_ NB108_119.out _; refine blk_far ?_ NB108_119.out _; refine blk_far ?_ NB108_119.out _; refine blk_far ?_ NB108_119.out _; exact B_ BK108.out⟩, ⟨by (with_reducible repeat (first | refine blk_drewN ?_ _ | refine blk_drew ?_ | refine blk_alloc ?_ _)); refine blk_far ?_ NB112_119.out _; refine blk_far ?_ NB112_119.out _; refine blk_far ?_ NB112_119.out _; refine blk_far ?_ NB112_119.out _; exact B_ BK112.out⟩, ⟨L_ HB.out GE108.out GE112.out GE119.out⟩⟩
               ·
                rw [if_neg c29] at H
                exact absurd H (by simp)
              ·
               rw [if_neg c28] at H
               exact absurd H (by simp)
             ·
              rw [if_neg c27] at H; have c27b0 : decide (x41_3 < (y114.length : Int)) = false := decide_eq_false c27; clear c27; have H' := a_ H; clear H
              go_wp2
              go_roundg k3
              case measure => have := HJ1.out; have := HK2.out; have := HK3.out; omega
              case rel => exact ⟨(wrap64 (x26_2 + 1)), (by first | rfl | (simp; done) | (simp [*]; done)), H', ⟨by have := HJ1.out; have := HK2.out; have := HK3.out; omega⟩, ⟨B_ BK108.out⟩, ⟨L_ HB.out GE108.out GE112.out GE112.out⟩⟩
          ·
           rw [if_neg c19] at H
           exact absurd H (by simp)
         ·
          replace c17 := Bool.eq_false_iff.mpr c17; subst c17; have H1 : (some false) = some r := by rw [if_neg (show ¬ (false = true) by decide)] at H; exact H
          clear H; have H := H1; clear H1; obtain rfl := Option.some.inj H; have p111 : 0 ≤ (x26_2 : Int) := of_decide_eq_true (by first | (with_reducible assumption) | assumption); have q111 : x26_2 < (l0_2.length : Int) := of_decide_eq_true (by first | (with_reducible assumption) | assumption); obtain ⟨ad111, e111, hx111_0, hx111_1, hx111_2, hx111_3⟩ := at_T68 HR0_2.out x26_2 p111 q111
          cases e111
          replace hx111_0 := (HB.out.cell (World.block_lt_of_cell? w _ hx111_0)).trans hx111_0; replace hx111_1 := (HB.out.cell (World.block_lt_of_cell? w _ hx111_1)).trans hx111_1; replace hx111_2 := (HB.out.cell (World.block_lt_of_cell? w _ hx111_2)).trans hx111_2; replace hx111_3 := (HB.out.cell (World.block_lt_of_cell? w _ hx111_3)).trans hx111_3; replace p111 := eq_true p111; replace q111 := eq_true q111
          go_wp2_with (first | ((with_reducible refine gate_dst (N := 4) rfl ?_); (try (refine gate_guard (by rfl) ?_; dsimp only)); refine box_event ?hg (N := 4) ?hd (cs := #[.int .i64 0, .int .i64 0, .int .i64 0, .int .i64 0]) (t := 68) ?hr ?_; (case hd => rfl); (case hg => rfl); (case hr => first | (go_simp; done) | (go_simp; rfl)); intro gb112 hg w50 hbox hb; have n0_ := bb_ BK108 hb; have n1_ := a_ (below_step (L_ HB.out GE108.out GE108.out GE108.out) hb); have n2_ := a_ (hbox); have n3_ := a_ ((by rw [hg]; exact (below_size (L_ HB.out GE108.out GE108.out GE108.out)) : w.heap.size ≤ gb112)); have n4_ := a_ ((by rw [hg]; exact (below_size (L_ HB.out GE108.out GE108.out GE108.out)) : w.heap.size ≤ gb112)); have n5_ := a_ ((by rw [hg]; exact Nat.ne_of_lt (blk_lt (B_ BK108.out)) : gb108 ≠ gb112)); have n6_ := a_ ((by rw [hg]; exact Nat.ne_of_gt (blk_lt (B_ BK108.out)) : gb112 ≠ gb108)); clear BK108; clear HB; have BK108 := n0_; have HB := n1_; have BK112 := n2_; have GW112 := n3_; have GE112 := n4_; have NB108_112 := n5_; have NB112_108 := n6_; clear n0_ n1_ n2_ n3_ n4_ n5_ n6_; clear hb hbox hg; have hnb51 := NB112_108.out; have hnc51 := NB108_112.out; have hcz52_0 : w50.cell? ⟨gb112, 0, none⟩ = some (.int .i64 0) := c_ BK112.out 0; have hcz52_1 : w50.cell? ⟨gb112, 1, none⟩ = some (.int .i64 0) := c_ BK112.out 1; have hcz52_2 : w50.cell? ⟨gb112, 2, none⟩ = some (.int .i64 0) := c_ BK112.out 2; have hcz52_3 : w50.cell? ⟨gb112, 3, none⟩ = some (.int .i64 0) := c_ BK112.out 3; have hfz52_0 := blk_frozen BK112.out 0; have hfz52_1 := blk_frozen BK112.out 1; have hfz52_2 := blk_frozen BK112.out 2; have hfz52_3 := blk_frozen BK112.out 3; have hcz53_0 : w50.cell? ⟨gb108, 0, none⟩ = some (.int .i64 a0_0) := c_ BK108.out 0; have hcz53_1 : w50.cell? ⟨gb108, 1, none⟩ = some (.int .i64 a0_1) := c_ BK108.out 1; have hcz53_2 : w50.cell? ⟨gb108, 2, none⟩ = some (.slice (some ad111) l0_2.length c0_2) := c_ BK108.out 2; have hfz53_0 := blk_frozen BK108.out 0; have hfz53_1 := blk_frozen BK108.out 1; have hfz53_2 := blk_frozen BK108.out 2) | ((with_reducible refine gate_callee (f := 59) rfl ?_); refine goesL_ (some 34) rfl rfl Try.func59 (by kernel_rfl) rfl #[.int .i64 a0_0, .agg #[.int .i64 ((rd_T68 l0_2 x26_2).f0), .int .i64 ((rd_T68 l0_2 x26_2).f1), .int .i64 ((rd_T68 l0_2 x26_2).f2), .int .i64 ((rd_T68 l0_2 x26_2).f3)]] rfl (by (try simp only [m1_, m2_, m3_]); first | done | rfl) ?_; (with_reducible refine (spec_lgResult.calls a0_0 ((rd_T68 l0_2 x26_2).f0) ((rd_T68 l0_2 x26_2).f1) ((rd_T68 l0_2 x26_2).f2) ((rd_T68 l0_2 x26_2).f3) false _ A16.out).mono ?_); rintro e w54 ⟨rfl, hb⟩; refine ⟨_, rfl, ?_⟩; have n0_ := a_ (blk_below (g := gb108) (o := .cells #[.int .i64 a0_0, .int .i64 a0_1, .slice (some ad111) l0_2.length c0_2] 30 (0, 0)) (by (with_reducible repeat (first | refine blk_drewN ?_ _ | refine blk_drew ?_ | refine blk_alloc ?_ _)); refine blk_far ?_ NB108_112.out _; refine blk_far ?_ NB108_112.out _; refine blk_far ?_ NB108_112.out _; refine blk_far ?_ NB108_112.out _; exact B_ BK108.out) hb); have n1_ := a_ (blk_below (g := gb112) (o := .cells #[.int .i64 ((rd_T68 l0_2 x26_2).f0), .int .i64 ((rd_T68 l0_2 x26_2).f1), .int .i64 ((rd_T68 l0_2 x26_2).f2), .int .i64 ((rd_T68 l0_2 x26_2).f3)] 68 (0, 0)) (by (with_reducible repeat (first | refine blk_drewN ?_ _ | refine blk_drew ?_ | refine blk_alloc ?_ _)); refine blk_put (cs := #[.int .i64 ((rd_T68 l0_2 x26_2).f0), .int .i64 ((rd_T68 l0_2 x26_2).f1), .int .i64 ((rd_T68 l0_2 x26_2).f2), .int .i64 0]) ?_ 3 _ rfl; (with_reducible repeat (first | refine blk_drewN ?_ _ | refine blk_drew ?_ | refine blk_alloc ?_ _)); refine blk_put (cs := #[.int .i64 ((rd_T68 l0_2 x26_2).f0), .int .i64 ((rd_T68 l0_2 x26_2).f1), .int .i64 0, .int .i64 0]) ?_ 2 _ rfl; (with_reducible repeat (first | refine blk_drewN ?_ _ | refine blk_drew ?_ | refine blk_alloc ?_ _)); refine blk_put (cs := #[.int .i64 ((rd_T68 l0_2 x26_2).f0), .int .i64 0, .int .i64 0, .int .i64 0]) ?_ 1 _ rfl; (with_reducible repeat (first | refine blk_drewN ?_ _ | refine blk_drew ?_ | refine blk_alloc ?_ _)); refine blk_put (cs := #[.int .i64 0, .int .i64 0, .int .i64 0, .int .i64 0]) ?_ 0 _ rfl; exact B_ BK112.out) hb); have n2_ := a_ (below_step (L_ HB.out GE108.out GE112.out GE112.out) hb); clear BK108; clear BK112; clear HB; have BK108 := n0_; have BK112 := n1_; have HB := n2_; clear n0_ n1_ n2_; (try clear hb); (try clear hb2); (try clear hk); (try clear hi)))
          go_ret
          exact ⟨by first | rfl | (simp [errW_none, errW_some] <;> rfl) | (simp [*, errW_none, errW_some] <;> rfl), by repeat (first | (with_reducible first | exact HB.out | apply below_alloc | apply pw_below_drewN | apply below_drew1 | refine below_set ?_ GE108.out | refine below_set ?_ GE112.out) | exact HB.out)⟩
        ·
         rw [if_neg c15] at H
         exact absurd H (by simp)
       ·
        rw [if_neg c14] at H
        exact absurd H (by simp)
      ·
       rw [if_neg c13] at H; have c13b0 : decide (x26_2 < (l0_2.length : Int)) = false := decide_eq_false c13; clear c13; obtain rfl := Option.some.inj H
       go_wp2
       go_ret
       exact ⟨by first | rfl | (simp [errW_none, errW_some] <;> rfl) | (simp [*, errW_none, errW_some] <;> rfl), by repeat (first | (with_reducible first | exact HB.out | apply below_alloc | apply pw_below_drewN | apply below_drew1 | refine below_set ?_ GE108.out) | exact HB.out)⟩

/-! ### spec_lgTeam: function 26 -/
def spec_lgTeam.f (k : Nat) (a0_0 : Int) (a0_1 : Int) (l0_2 : List (S68)) (a1 : Int) : Option (Bool) := (spec_lgGood.f k a0_0 a0_1 l0_2).bind fun t121 => (if t121 = true then ((spec_l1In.f a1 0 (wrap64 (a0_0 - 1))).bind fun t122 => (some t122)) else (some false))
theorem spec_lgTeam.mono : ∀ a0 a1 a2 a3 k, LeO (spec_lgTeam.f k a0 a1 a2 a3) (spec_lgTeam.f (k + 1) a0 a1 a2 a3) := by
 intro a0 a1 a2 a3 k
 unfold spec_lgTeam.f
 repeat' first
   | (with_reducible exact spec_lgGood.mono _ _ _ _)
   | (with_reducible exact LeO.refl _)
   | (with_reducible exact LeO.none _)
   | (with_reducible refine LeO.ite ?_ ?_)
   | (with_reducible refine LeO.bind ?_ (fun _ => ?_))
   | exact spec_lgGood.mono _ _ _ _
   | exact LeO.none _
   | refine LeO.ite ?_ ?_
   | refine LeO.bind ?_ (fun _ => ?_)
set_option maxHeartbeats 8000000 in
set_option maxRecDepth 100000 in
theorem spec_lgTeam.calls (k : Nat) (a0_0 : Int) (a0_1 : Int) (A0_2 : Option Addr) (c0_2 : Nat) (l0_2 : List (S68)) (a1 : Int) (r : Bool) (w : World) (hr0_2 : Kd.C k68 w A0_2 l0_2.length l0_2) (hc0_2 : l0_2.length ≤ c0_2) (h : spec_lgTeam.f k a0_0 a0_1 l0_2 a1 = some r) :
  Calls Try.prog 26 #[.agg #[.int .i64 a0_0, .int .i64 a0_1, .slice A0_2 l0_2.length c0_2], .int .i64 a1] w fun e w' => e = .returned (.bool r) ∧ Below w.heap.size w w' := by
 have hu30 := Try.underlying30; have HR0_2 := a_ hr0_2; have HC0_2 := a_ hc0_2; clear hr0_2 hc0_2; have HB := a_ (Below.refl w.heap.size w); have H : ((spec_lgGood.f k a0_0 a0_1 l0_2).bind fun t121 => (if t121 = true then ((spec_l1In.f a1 0 (wrap64 (a0_0 - 1))).bind fun t122 => (some t122)) else (some false))) = some r := h; clear h; replace H := Option.bind_eq_some_iff.mp H; obtain ⟨t121, A30, H⟩ := H; replace H : (if t121 = true then ((spec_l1In.f a1 0 (wrap64 (a0_0 - 1))).bind fun t122 => (some t122)) else (some false)) = some r := H; have A3 := a_ A30; clear A30
 by_cases c4 : t121 = true
 ·
  subst c4; have H1 : ((spec_l1In.f a1 0 (wrap64 (a0_0 - 1))).bind fun t122 => (some t122)) = some r := by rw [if_pos rfl] at H; exact H
  clear H; have H := H1; clear H1; replace H := Option.bind_eq_some_iff.mp H; obtain ⟨t122, A50, H⟩ := H; replace H : (some t122) = some r := H; have A5 := a_ A50; clear A50; obtain rfl := Option.some.inj H
  go_enter Try.func26, Try.ntmps26
  go_wp2_with (first | ((with_reducible refine gate_dst (N := 2) rfl ?_); refine box_event ?hg (N := 2) ?hd (cs := #[.int .i64 a0_0, .int .i64 a0_1, .slice A0_2 l0_2.length c0_2]) (t := 30) ?hr ?_; (case hd => rfl); (case hg => rfl); (case hr => first | (go_simp; done) | (go_simp; rfl)); intro gb120 hg w6 hbox hb; have n0_ := a_ (below_step (L_ HB.out (Nat.le_refl _) (Nat.le_refl _) (Nat.le_refl _)) hb); have n1_ := a_ (hbox); have n2_ := a_ ((by rw [hg]; exact (below_size (L_ HB.out (Nat.le_refl _) (Nat.le_refl _) (Nat.le_refl _))) : w.heap.size ≤ gb120)); have n3_ := a_ ((by rw [hg]; exact (below_size (L_ HB.out (Nat.le_refl _) (Nat.le_refl _) (Nat.le_refl _))) : w.heap.size ≤ gb120)); clear HB; have HB := n0_; have BK120 := n1_; have GW120 := n2_; have GE120 := n3_; clear n0_ n1_ n2_ n3_; clear hb hbox hg; have hcz7_0 : w6.cell? ⟨gb120, 0, none⟩ = some (.int .i64 a0_0) := c_ BK120.out 0; have hcz7_1 : w6.cell? ⟨gb120, 1, none⟩ = some (.int .i64 a0_1) := c_ BK120.out 1; have hcz7_2 : w6.cell? ⟨gb120, 2, none⟩ = some (.slice A0_2 l0_2.length c0_2) := c_ BK120.out 2; have hfz7_0 := blk_frozen BK120.out 0; have hfz7_1 := blk_frozen BK120.out 1; have hfz7_2 := blk_frozen BK120.out 2) | ((with_reducible refine gate_callee (f := 43) rfl ?_); refine goesL_ (some 6) rfl rfl Try.func43 (by kernel_rfl) rfl #[.agg #[.int .i64 a0_0, .int .i64 a0_1, .slice A0_2 l0_2.length c0_2]] rfl (by (try simp only [m1_, m2_, m3_]); first | done | rfl) ?_; (with_reducible refine (spec_lgGood.calls k a0_0 a0_1 _ _ l0_2 true _ ?side1 ?side2 A3.out).mono ?_); (case side1 => repeat (first | exact (Kd.C_below HR0_2.out HB.out) | (with_reducible refine Kd.C_alloc ?_ _) | (with_reducible refine Kd.C_drewN ?_ _) | (with_reducible refine Kd.C_drew ?_))); (case side2 => exact HC0_2.out); rintro e w8 ⟨rfl, hb⟩; refine ⟨_, rfl, ?_⟩; have n0_ := bb_ BK120 hb; have n1_ := a_ (below_step (L_ HB.out GE120.out GE120.out GE120.out) hb); clear BK120; clear HB; have BK120 := n0_; have HB := n1_; clear n0_ n1_; (try clear hb); (try clear hb2); (try clear hk); (try clear hi); have hcz9_0 : w8.cell? ⟨gb120, 0, none⟩ = some (.int .i64 a0_0) := c_ BK120.out 0; have hcz9_1 : w8.cell? ⟨gb120, 1, none⟩ = some (.int .i64 a0_1) := c_ BK120.out 1; have hcz9_2 : w8.cell? ⟨gb120, 2, none⟩ = some (.slice A0_2 l0_2.length c0_2) := c_ BK120.out 2; have hfz9_0 := blk_frozen BK120.out 0; have hfz9_1 := blk_frozen BK120.out 1; have hfz9_2 := blk_frozen BK120.out 2) | (go_at_call 48; (with_reducible refine (spec_l1In.calls a1 0 (wrap64 (a0_0 - 1)) t122 _ A5.out).mono ?_); rintro e w' ⟨rfl, ⟨nd, rfl⟩⟩))
  go_ret
  exact ⟨by first | rfl | (simp [errW_none, errW_some] <;> rfl) | (simp [*, errW_none, errW_some] <;> rfl), by repeat (first | (with_reducible first | exact HB.out | apply below_alloc | apply pw_below_drewN | apply below_drew1 | refine below_set ?_ GE120.out) | exact HB.out)⟩
 ·
  replace c4 := Bool.eq_false_iff.mpr c4; subst c4; have H1 : (some false) = some r := by rw [if_neg (show ¬ (false = true) by decide)] at H; exact H
  clear H; have H := H1; clear H1; obtain rfl := Option.some.inj H
  go_enter Try.func26, Try.ntmps26
  go_wp2_with (first | ((with_reducible refine gate_dst (N := 2) rfl ?_); refine box_event ?hg (N := 2) ?hd (cs := #[.int .i64 a0_0, .int .i64 a0_1, .slice A0_2 l0_2.length c0_2]) (t := 30) ?hr ?_; (case hd => rfl); (case hg => rfl); (case hr => first | (go_simp; done) | (go_simp; rfl)); intro gb120 hg w10 hbox hb; have n0_ := a_ (below_step (L_ HB.out (Nat.le_refl _) (Nat.le_refl _) (Nat.le_refl _)) hb); have n1_ := a_ (hbox); have n2_ := a_ ((by rw [hg]; exact (below_size (L_ HB.out (Nat.le_refl _) (Nat.le_refl _) (Nat.le_refl _))) : w.heap.size ≤ gb120)); have n3_ := a_ ((by rw [hg]; exact (below_size (L_ HB.out (Nat.le_refl _) (Nat.le_refl _) (Nat.le_refl _))) : w.heap.size ≤ gb120)); clear HB; have HB := n0_; have BK120 := n1_; have GW120 := n2_; have GE120 := n3_; clear n0_ n1_ n2_ n3_; clear hb hbox hg; have hcz11_0 : w10.cell? ⟨gb120, 0, none⟩ = some (.int .i64 a0_0) := c_ BK120.out 0; have hcz11_1 : w10.cell? ⟨gb120, 1, none⟩ = some (.int .i64 a0_1) := c_ BK120.out 1; have hcz11_2 : w10.cell? ⟨gb120, 2, none⟩ = some (.slice A0_2 l0_2.length c0_2) := c_ BK120.out 2; have hfz11_0 := blk_frozen BK120.out 0; have hfz11_1 := blk_frozen BK120.out 1; have hfz11_2 := blk_frozen BK120.out 2) | ((with_reducible refine gate_callee (f := 43) rfl ?_); refine goesL_ (some 6) rfl rfl Try.func43 (by kernel_rfl) rfl #[.agg #[.int .i64 a0_0, .int .i64 a0_1, .slice A0_2 l0_2.length c0_2]] rfl (by (try simp only [m1_, m2_, m3_]); first | done | rfl) ?_; (with_reducible refine (spec_lgGood.calls k a0_0 a0_1 _ _ l0_2 false _ ?side1 ?side2 A3.out).mono ?_); (case side1 => repeat (first | exact (Kd.C_below HR0_2.out HB.out) | (with_reducible refine Kd.C_alloc ?_ _) | (with_reducible refine Kd.C_drewN ?_ _) | (with_reducible refine Kd.C_drew ?_))); (case side2 => exact HC0_2.out); rintro e w12 ⟨rfl, hb⟩; refine ⟨_, rfl, ?_⟩; have n0_ := bb_ BK120 hb; have n1_ := a_ (below_step (L_ HB.out GE120.out GE120.out GE120.out) hb); clear BK120; clear HB; have BK120 := n0_; have HB := n1_; clear n0_ n1_; (try clear hb); (try clear hb2); (try clear hk); (try clear hi)))
  go_ret
  exact ⟨by first | rfl | (simp [errW_none, errW_some] <;> rfl) | (simp [*, errW_none, errW_some] <;> rfl), by repeat (first | (with_reducible first | exact HB.out | apply below_alloc | apply pw_below_drewN | apply below_drew1 | refine below_set ?_ GE120.out) | exact HB.out)⟩

end Go.Proofs.Ytmijfimjlenmpaa.QFnExactMostPoints
