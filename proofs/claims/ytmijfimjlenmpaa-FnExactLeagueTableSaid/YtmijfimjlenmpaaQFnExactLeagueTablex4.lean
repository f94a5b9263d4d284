-- Written by a program of this session (wip/tools/gprintS.sh) out of the translation, with some contracts given by hand.
import Derived.Test.YtmijfimjlenmpaaQFnExactMostPointsx0
import Derived.Test.YtmijfimjlenmpaaQFnExactLeagueTablex2
import Derived.Test.YtmijfimjlenmpaaQFnExactLeagueTablex3
import Derived.Test.YtmijfimjlenmpaaGLT
import Derived.Test.YtmijfimjlenmpaaQTMx1
import Derived.Test.YtmijfimjlenmpaaQTMx3
import Derived.Test.YtmijfimjlenmpaaQTMx5
import Derived.Test.YtmijfimjlenmpaaGShort
namespace Go.Proofs.Ytmijfimjlenmpaa.QFnExactMostPoints
open Go.RowKit Go.Proofs.YtmijfimjlenmpaaW.PrintWords Go.Proofs.YtmijfimjlenmpaaW.PrintLast Go.Proofs.YtmijfimjlenmpaaW.PrintMore Go.Proofs.Ytmijfimjlenmpaa.Sh
attribute [local go_sem] max2_int min2_int max_two min_two max_three min_three max_four min_four   -- for this text's walks alone
set_option linter.unusedVariables false
set_option linter.unusedSimpArgs false

/-! ### laws_FnExactLeagueTable: function 7 -/
mutual
def laws_FnExactLeagueTable.j0 : Nat → List Int → Bool → List Int → Bool → Bool → Int → Int → List (S71) → Int → Int → List (S68) → Option (Bool)
 | 0, _, _, _, _, _, _, _, _, _, _, _ => none
 | k + 1, x4, x5, x7, x8, x40, x192000, x192001, x192002, x208000, x208001, x208002 => if x40 = true then (some false) else ((laws_toLeague.f k x192000 x192001 x192002).bind fun bt213 => ((laws_eqLeague.f k x208000 x208001 x208002 bt213.1 bt213.2.1 bt213.2.2).bind fun t218 => (if t218 = true then ((laws_markLeague.f k x208000 x208001 x208002 1).bind fun bt219 => (if bt219.1 < 0 then (laws_FnExactLeagueTable.j1 k x4 x5 x7 true x192000 x192001 x192002) else ((laws_eqIntS.f k x7 x4).bind fun t221 => (if t221 = true then (laws_FnExactLeagueTable.j1 k x4 x5 x7 (x8 != x5) x192000 x192001 x192002) else (laws_FnExactLeagueTable.j1 k x4 x5 x7 true x192000 x192001 x192002))))) else (some false))))
def laws_FnExactLeagueTable.j1 : Nat → List Int → Bool → List Int → Bool → Int → Int → List (S71) → Option (Bool)
 | 0, _, _, _, _, _, _, _ => none
 | k + 1, x4, x5, x7, x61, x192000, x192001, x192002 => if x61 = true then (some false) else ((laws_markIntS.f k x7 1).bind fun bt222 => ((laws_heldIntS.f k bt222.2 1).bind fun t224 => (if t224 < 0 then (some false) else (if t224 = bt222.1 then ((laws_toLeague.f k x192000 x192001 x192002).bind fun bt225 => ((impl_LeagueTable.f k bt225.1 bt225.2.1 bt225.2.2).bind fun bt230 => ((laws_eqIntS.f k bt230.1 x4).bind fun t234 => (if t234 = true then (laws_FnExactLeagueTable.j2 k bt222.2 bt222.1 (bt230.2 != x5)) else (laws_FnExactLeagueTable.j2 k bt222.2 bt222.1 true))))) else (some false)))))
def laws_FnExactLeagueTable.j2 : Nat → List Int → Int → Bool → Option (Bool)
 | 0, _, _, _ => none
 | k + 1, x7, x10, x87 => if x87 = true then (some false) else ((laws_heldIntS.f k x7 1).bind fun t235 => (if t235 < 0 then (some false) else (if t235 = x10 then (some true) else (some false))))
end
def laws_FnExactLeagueTable.f (k : Nat) (a0_0 : Int) (a0_1 : Int) (l0_2 : List (S71)) : Option (Bool) := (laws_szLeague.f a0_0 a0_1 l0_2 1048576).bind fun t192 => (if t192 < 0 then (some true) else ((laws_toLeague.f k a0_0 a0_1 l0_2).bind fun bt193 => ((spec_LeagueTable.f k bt193.1 bt193.2.1 bt193.2.2).bind fun bt198 => ((laws_toLeague.f k a0_0 a0_1 l0_2).bind fun bt202 => ((impl_LeagueTable.f k bt202.1 bt202.2.1 bt202.2.2).bind fun bt208 => ((laws_eqIntS.f k bt208.1 bt198.1).bind fun t212 => (if t212 = true then (laws_FnExactLeagueTable.j0 k bt198.1 bt198.2 bt208.1 bt208.2 (bt208.2 != bt198.2) a0_0 a0_1 l0_2 bt202.1 bt202.2.1 bt202.2.2) else (laws_FnExactLeagueTable.j0 k bt198.1 bt198.2 bt208.1 bt208.2 true a0_0 a0_1 l0_2 bt202.1 bt202.2.1 bt202.2.2))))))))
theorem laws_FnExactLeagueTable.mono_l : ∀ k, (∀ y0 y1 y2 y3 y4 y5 y6 y7 y8 y9 y10, LeO (laws_FnExactLeagueTable.j0 k y0 y1 y2 y3 y4 y5 y6 y7 y8 y9 y10) (laws_FnExactLeagueTable.j0 (k + 1) y0 y1 y2 y3 y4 y5 y6 y7 y8 y9 y10)) ∧ (∀ y0 y1 y2 y3 y4 y5 y6, LeO (laws_FnExactLeagueTable.j1 k y0 y1 y2 y3 y4 y5 y6) (laws_FnExactLeagueTable.j1 (k + 1) y0 y1 y2 y3 y4 y5 y6)) ∧ (∀ y0 y1 y2, LeO (laws_FnExactLeagueTable.j2 k y0 y1 y2) (laws_FnExactLeagueTable.j2 (k + 1) y0 y1 y2))
 | 0 => ⟨fun _ _ _ _ _ _ _ _ _ _ _ r h => by simp [laws_FnExactLeagueTable.j0] at h, fun _ _ _ _ _ _ _ r h => by simp [laws_FnExactLeagueTable.j1] at h, fun _ _ _ r h => by simp [laws_FnExactLeagueTable.j2] at h⟩
 | k + 1 => by
  obtain ⟨ih0, ih1, ih2⟩ := laws_FnExactLeagueTable.mono_l k
  refine ⟨?_, ?_, ?_⟩
  ·
   intro y0 y1 y2 y3 y4 y5 y6 y7 y8 y9 y10
   unfold laws_FnExactLeagueTable.j0
   repeat' first
   | (with_reducible exact ih0 _ _ _ _ _ _ _ _ _ _ _)
   | (with_reducible exact ih1 _ _ _ _ _ _ _)
   | (with_reducible exact ih2 _ _ _)
   | (with_reducible exact impl_LeagueTable.mono _ _ _ _)
   | (with_reducible exact laws_eqIntS.mono _ _ _)
   | (with_reducible exact laws_eqLeague.mono _ _ _ _ _ _ _)
   | (with_reducible exact laws_heldIntS.mono _ _ _)
   | (with_reducible exact laws_markIntS.mono _ _ _)
   | (with_reducible exact laws_markLeague.mono _ _ _ _ _)
   | (with_reducible exact laws_toLeague.mono _ _ _ _)
   | (with_reducible exact spec_LeagueTable.mono _ _ _ _)
   | (with_reducible exact LeO.refl _)
   | (with_reducible exact LeO.none _)
   | (with_reducible refine LeO.ite ?_ ?_)
   | (with_reducible refine LeO.bind ?_ (fun _ => ?_))
   | exact ih0 _ _ _ _ _ _ _ _ _ _ _
   | exact ih1 _ _ _ _ _ _ _
   | exact ih2 _ _ _
   | exact impl_LeagueTable.mono _ _ _ _
   | exact laws_eqIntS.mono _ _ _
   | exact laws_eqLeague.mono _ _ _ _ _ _ _
   | exact laws_heldIntS.mono _ _ _
   | exact laws_markIntS.mono _ _ _
   | exact laws_markLeague.mono _ _ _ _ _
   | exact laws_toLeague.mono _ _ _ _
   | exact spec_LeagueTable.mono _ _ _ _
   | exact LeO.none _
   | refine LeO.ite ?_ ?_
   | refine LeO.bind ?_ (fun _ => ?_)
  ·
   intro y0 y1 y2 y3 y4 y5 y6
   unfold laws_FnExactLeagueTable.j1
   repeat' first
   | (with_reducible exact ih0 _ _ _ _ _ _ _ _ _ _ _)
   | (with_reducible exact ih1 _ _ _ _ _ _ _)
   | (with_reducible exact ih2 _ _ _)
   | (with_reducible exact impl_LeagueTable.mono _ _ _ _)
   | (with_reducible exact laws_eqIntS.mono _ _ _)
   | (with_reducible exact laws_eqLeague.mono _ _ _ _ _ _ _)
   | (with_reducible exact laws_heldIntS.mono _ _ _)
   | (with_reducible exact laws_markIntS.mono _ _ _)
   | (with_reducible exact laws_markLeague.mono _ _ _ _ _)
   | (with_reducible exact laws_toLeague.mono _ _ _ _)
   | (with_reducible exact spec_LeagueTable.mono _ _ _ _)
   | (with_reducible exact LeO.refl _)
   | (with_reducible exact LeO.none _)
   | (with_reducible refine LeO.ite ?_ ?_)
   | (with_reducible refine LeO.bind ?_ (fun _ => ?_))
   | exact ih0 _ _ _ _ _ _ _ _ _ _ _
   | exact ih1 _ _ _ _ _ _ _
   | exact ih2 _ _ _
   | exact impl_LeagueTable.mono _ _ _ _
   | exact laws_eqIntS.mono _ _ _
   | exact laws_eqLeague.mono _ _ _ _ _ _ _
   | exact laws_heldIntS.mono _ _ _
   | exact laws_markIntS.mono _ _ _
   | exact laws_markLeague.mono _ _ _ _ _
   | exact laws_toLeague.mono _ _ _ _
   | exact spec_LeagueTable.mono _ _ _ _
   | exact LeO.none _
   | refine LeO.ite ?_ ?_
   | refine LeO.bind ?_ (fun _ => ?_)
  ·
   intro y0 y1 y2
   unfold laws_FnExactLeagueTable.j2
   repeat' first
   | (with_reducible exact ih0 _ _ _ _ _ _ _ _ _ _ _)
   | (with_reducible exact ih1 _ _ _ _ _ _ _)
   | (with_reducible exact ih2 _ _ _)
   | (with_reducible exact impl_LeagueTable.mono _ _ _ _)
   | (with_reducible exact laws_eqIntS.mono _ _ _)
   | (with_reducible exact laws_eqLeague.mono _ _ _ _ _ _ _)
   | (with_reducible exact laws_heldIntS.mono _ _ _)
   | (with_reducible exact laws_markIntS.mono _ _ _)
   | (with_reducible exact laws_markLeague.mono _ _ _ _ _)
   | (with_reducible exact laws_toLeague.mono _ _ _ _)
   | (with_reducible exact spec_LeagueTable.mono _ _ _ _)
   | (with_reducible exact LeO.refl _)
   | (with_reducible exact LeO.none _)
   | (with_reducible refine LeO.ite ?_ ?_)
   | (with_reducible refine LeO.bind ?_ (fun _ => ?_))
   | exact ih0 _ _ _ _ _ _ _ _ _ _ _
   | exact ih1 _ _ _ _ _ _ _
   | exact ih2 _ _ _
   | exact impl_LeagueTable.mono _ _ _ _
   | exact laws_eqIntS.mono _ _ _
   | exact laws_eqLeague.mono _ _ _ _ _ _ _
   | exact laws_heldIntS.mono _ _ _
   | exact laws_markIntS.mono _ _ _
   | exact laws_markLeague.mono _ _ _ _ _
   | exact laws_toLeague.mono _ _ _ _
   | exact spec_LeagueTable.mono _ _ _ _
   | exact LeO.none _
   | refine LeO.ite ?_ ?_
   | refine LeO.bind ?_ (fun _ => ?_)
theorem laws_FnExactLeagueTable.mono : ∀ a0 a1 a2 k, LeO (laws_FnExactLeagueTable.f k a0 a1 a2) (laws_FnExactLeagueTable.f (k + 1) a0 a1 a2) := by
 intro a0 a1 a2 k
 obtain ⟨ih0, ih1, ih2⟩ := laws_FnExactLeagueTable.mono_l k
 unfold laws_FnExactLeagueTable.f
 repeat' first
   | (with_reducible exact ih0 _ _ _ _ _ _ _ _ _ _ _)
   | (with_reducible exact ih1 _ _ _ _ _ _ _)
   | (with_reducible exact ih2 _ _ _)
   | (with_reducible exact impl_LeagueTable.mono _ _ _ _)
   | (with_reducible exact laws_eqIntS.mono _ _ _)
   | (with_reducible exact laws_eqLeague.mono _ _ _ _ _ _ _)
   | (with_reducible exact laws_heldIntS.mono _ _ _)
   | (with_reducible exact laws_markIntS.mono _ _ _)
   | (with_reducible exact laws_markLeague.mono _ _ _ _ _)
   | (with_reducible exact laws_toLeague.mono _ _ _ _)
   | (with_reducible exact spec_LeagueTable.mono _ _ _ _)
   | (with_reducible exact LeO.refl _)
   | (with_reducible exact LeO.none _)
   | (with_reducible refine LeO.ite ?_ ?_)
   | (with_reducible refine LeO.bind ?_ (fun _ => ?_))
   | exact ih0 _ _ _ _ _ _ _ _ _ _ _
   | exact ih1 _ _ _ _ _ _ _
   | exact ih2 _ _ _
   | exact impl_LeagueTable.mono _ _ _ _
   | exact laws_eqIntS.mono _ _ _
   | exact laws_eqLeague.mono _ _ _ _ _ _ _
   | exact laws_heldIntS.mono _ _ _
   | exact laws_markIntS.mono _ _ _
   | exact laws_markLeague.mono _ _ _ _ _
   | exact laws_toLeague.mono _ _ _ _
   | exact spec_LeagueTable.mono _ _ _ _
   | exact LeO.none _
   | refine LeO.ite ?_ ?_
   | refine LeO.bind ?_ (fun _ => ?_)
set_option maxHeartbeats 8000000 in
set_option maxRecDepth 100000 in
theorem laws_FnExactLeagueTable.calls (k : Nat) (a0_0 : Int) (a0_1 : Int) (A0_2 : Option Addr) (c0_2 : Nat) (l0_2 : List (S71)) (r : Bool) (w : World) (hr0_2 : Kd.C k71 w A0_2 l0_2.length l0_2) (hc0_2 : l0_2.length ≤ c0_2) (h : laws_FnExactLeagueTable.f k a0_0 a0_1 l0_2 = some r) :
  Calls Try.prog 7 #[.agg #[.int .i64 a0_0, .int .i64 a0_1, .slice A0_2 l0_2.length c0_2]] w fun e w' => e = .returned (.bool r) ∧ Below w.heap.size w w' := by
 have hu24 := Try.underlying24; have hu30 := Try.underlying30; have HR0_2 := a_ hr0_2; have HC0_2 := a_ hc0_2; clear hr0_2 hc0_2; have HB := a_ (Below.refl w.heap.size w); have H : ((laws_szLeague.f a0_0 a0_1 l0_2 1048576).bind fun t192 => (if t192 < 0 then (some true) else ((laws_toLeague.f k a0_0 a0_1 l0_2).bind fun bt193 => ((spec_LeagueTable.f k bt193.1 bt193.2.1 bt193.2.2).bind fun bt198 => ((laws_toLeague.f k a0_0 a0_1 l0_2).bind fun bt202 => ((impl_LeagueTable.f k bt202.1 bt202.2.1 bt202.2.2).bind fun bt208 => ((laws_eqIntS.f k bt208.1 bt198.1).bind fun t212 => (if t212 = true then (laws_FnExactLeagueTable.j0 k bt198.1 bt198.2 bt208.1 bt208.2 (bt208.2 != bt198.2) a0_0 a0_1 l0_2 bt202.1 bt202.2.1 bt202.2.2) else (laws_FnExactLeagueTable.j0 k bt198.1 bt198.2 bt208.1 bt208.2 true a0_0 a0_1 l0_2 bt202.1 bt202.2.1 bt202.2.2))))))))) = some r := h; clear h; replace H := Option.bind_eq_some_iff.mp H; obtain ⟨t192, A20, H⟩ := H; replace H : (if t192 < 0 then (some true) else ((laws_toLeague.f k a0_0 a0_1 l0_2).bind fun bt193 => ((spec_LeagueTable.f k bt193.1 bt193.2.1 bt193.2.2).bind fun bt198 => ((laws_toLeague.f k a0_0 a0_1 l0_2).bind fun bt202 => ((impl_LeagueTable.f k bt202.1 bt202.2.1 bt202.2.2).bind fun bt208 => ((laws_eqIntS.f k bt208.1 bt198.1).bind fun t212 => (if t212 = true then (laws_FnExactLeagueTable.j0 k bt198.1 bt198.2 bt208.1 bt208.2 (bt208.2 != bt198.2) a0_0 a0_1 l0_2 bt202.1 bt202.2.1 bt202.2.2) else (laws_FnExactLeagueTable.j0 k bt198.1 bt198.2 bt208.1 bt208.2 true a0_0 a0_1 l0_2 bt202.1 bt202.2.1 bt202.2.2)))))))) = some r := H; have A2 := a_ A20; clear A20
 by_cases c3 : t192 < 0
 ·
  rw [if_pos c3] at H; have c3b0 : decide (t192 < 0) = true := decide_eq_true c3; clear c3; obtain rfl := Option.some.inj H
  go_enter Try.func7, Try.ntmps7
  go_wp2_with (first | ((with_reducible refine gate_dst (N := 1) rfl ?_); refine box_event ?hg (N := 1) ?hd (cs := #[.int .i64 a0_0, .int .i64 a0_1, .slice A0_2 l0_2.length c0_2]) (t := 24) ?hr ?_; (case hd => rfl); (case hg => rfl); (case hr => first | (go_simp; done) | (go_simp; rfl)); intro gb191 hg w4 hbox hb; have n0_ := a_ (below_step (L_ HB.out (Nat.le_refl _) (Nat.le_refl _) (Nat.le_refl _)) hb); have n1_ := a_ (hbox); have n2_ := a_ ((by rw [hg]; exact (below_size (L_ HB.out (Nat.le_refl _) (Nat.le_refl _) (Nat.le_refl _))) : w.heap.size ≤ gb191)); have n3_ := a_ ((by rw [hg]; exact (below_size (L_ HB.out (Nat.le_refl _) (Nat.le_refl _) (Nat.le_refl _))) : w.heap.size ≤ gb191)); clear HB; have HB := n0_; have BK191 := n1_; have GW191 := n2_; have GE191 := n3_; clear n0_ n1_ n2_ n3_; clear hb hbox hg; have hcz5_0 : w4.cell? ⟨gb191, 0, none⟩ = some (.int .i64 a0_0) := c_ BK191.out 0; have hcz5_1 : w4.cell? ⟨gb191, 1, none⟩ = some (.int .i64 a0_1) := c_ BK191.out 1; have hcz5_2 : w4.cell? ⟨gb191, 2, none⟩ = some (.slice A0_2 l0_2.length c0_2) := c_ BK191.out 2; have hfz5_0 := blk_frozen BK191.out 0; have hfz5_1 := blk_frozen BK191.out 1; have hfz5_2 := blk_frozen BK191.out 2) | ((with_reducible refine gate_callee (f := 8) rfl ?_); refine goesL_ (some 16) rfl rfl Try.func8 (by kernel_rfl) rfl #[.agg #[.int .i64 a0_0, .int .i64 a0_1, .slice A0_2 l0_2.length c0_2], .int .i64 1048576] rfl (by (try simp only [m1_, m2_, m3_]); first | done | rfl) ?_; (with_reducible refine (laws_szLeague.calls a0_0 a0_1 _ _ l0_2 1048576 t192 _ ?side1 ?side2 A2.out).mono ?_); (case side1 => repeat (first | exact (Kd.C_below HR0_2.out HB.out) | (with_reducible refine Kd.C_alloc ?_ _) | (with_reducible refine Kd.C_drewN ?_ _) | (with_reducible refine Kd.C_drew ?_))); (case side2 => exact HC0_2.out); rintro e w6 ⟨rfl, hb⟩; refine ⟨_, rfl, ?_⟩; have n0_ := bb_ BK191 hb; have n1_ := a_ (below_step (L_ HB.out GE191.out GE191.out GE191.out) hb); clear BK191; clear HB; have BK191 := n0_; have HB := n1_; clear n0_ n1_; (try clear hb); (try clear hb2); (try clear hk); (try clear hi)))
  go_ret
  exact ⟨by first | rfl | (simp [errW_none, errW_some] <;> rfl) | (simp [*, errW_none, errW_some] <;> rfl), by repeat (first | (with_reducible first | exact HB.out | apply below_alloc | apply pw_below_drewN | apply below_drew1 | refine below_set ?_ GE191.out) | exact HB.out)⟩
 ·
  rw [if_neg c3] at H; have c3b0 : decide (t192 < 0) = false := decide_eq_false c3; clear c3; replace H := Option.bind_eq_some_iff.mp H; obtain ⟨⟨t193, t194, t195⟩, A70, H⟩ := H; replace H : ((spec_LeagueTable.f k t193 t194 t195).bind fun bt198 => ((laws_toLeague.f k a0_0 a0_1 l0_2).bind fun bt202 => ((impl_LeagueTable.f k bt202.1 bt202.2.1 bt202.2.2).bind fun bt208 => ((laws_eqIntS.f k bt208.1 bt198.1).bind fun t212 => (if t212 = true then (laws_FnExactLeagueTable.j0 k bt198.1 bt198.2 bt208.1 bt208.2 (bt208.2 != bt198.2) a0_0 a0_1 l0_2 bt202.1 bt202.2.1 bt202.2.2) else (laws_FnExactLeagueTable.j0 k bt198.1 bt198.2 bt208.1 bt208.2 true a0_0 a0_1 l0_2 bt202.1 bt202.2.1 bt202.2.2)))))) = some r := H; have A7 := a_ A70; clear A70; replace H := Option.bind_eq_some_iff.mp H; obtain ⟨⟨t198, t201⟩, A80, H⟩ := H; replace H : ((laws_toLeague.f k a0_0 a0_1 l0_2).bind fun bt202 => ((impl_LeagueTable.f k bt202.1 bt202.2.1 bt202.2.2).bind fun bt208 => ((laws_eqIntS.f k bt208.1 t198).bind fun t212 => (if t212 = true then (laws_FnExactLeagueTable.j0 k t198 t201 bt208.1 bt208.2 (bt208.2 != t201) a0_0 a0_1 l0_2 bt202.1 bt202.2.1 bt202.2.2) else (laws_FnExactLeagueTable.j0 k t198 t201 bt208.1 bt208.2 true a0_0 a0_1 l0_2 bt202.1 bt202.2.1 bt202.2.2))))) = some r := H; have A8 := a_ A80; clear A80; replace H := Option.bind_eq_some_iff.mp H; obtain ⟨⟨t202, t203, t204⟩, A90, H⟩ := H; replace H : ((impl_LeagueTable.f k t202 t203 t204).bind fun bt208 => ((laws_eqIntS.f k bt208.1 t198).bind fun t212 => (if t212 = true then (laws_FnExactLeagueTable.j0 k t198 t201 bt208.1 bt208.2 (bt208.2 != t201) a0_0 a0_1 l0_2 t202 t203 t204) else (laws_FnExactLeagueTable.j0 k t198 t201 bt208.1 bt208.2 true a0_0 a0_1 l0_2 t202 t203 t204)))) = some r := H; have A9 := a_ A90; clear A90; replace H := Option.bind_eq_some_iff.mp H; obtain ⟨⟨t208, t211⟩, A100, H⟩ := H; replace H : ((laws_eqIntS.f k t208 t198).bind fun t212 => (if t212 = true then (laws_FnExactLeagueTable.j0 k t198 t201 t208 t211 (t211 != t201) a0_0 a0_1 l0_2 t202 t203 t204) else (laws_FnExactLeagueTable.j0 k t198 t201 t208 t211 true a0_0 a0_1 l0_2 t202 t203 t204))) = some r := H; have A10 := a_ A100; clear A100; have HC11 := a_ H; clear H
  go_enter Try.func7, Try.ntmps7
  go_upto_region 8 with (first | ((with_reducible refine gate_dst (N := 1) rfl ?_); refine box_event ?hg (N := 1) ?hd (cs := #[.int .i64 a0_0, .int .i64 a0_1, .slice A0_2 l0_2.length c0_2]) (t := 24) ?hr ?_; (case hd => rfl); (case hg => rfl); (case hr => first | (go_simp; done) | (go_simp; rfl)); intro gb191 hg w12 hbox hb; have n0_ := a_ (below_step (L_ HB.out (Nat.le_refl _) (Nat.le_refl _) (Nat.le_refl _)) hb); have n1_ := a_ (hbox); have n2_ := a_ ((by rw [hg]; exact (below_size (L_ HB.out (Nat.le_refl _) (Nat.le_refl _) (Nat.le_refl _))) : w.heap.size ≤ gb191)); have n3_ := a_ ((by rw [hg]; exact (below_size (L_ HB.out (Nat.le_refl _) (Nat.le_refl _) (Nat.le_refl _))) : w.heap.size ≤ gb191)); clear HB; have HB := n0_; have BK191 := n1_; have GW191 := n2_; have GE191 := n3_; clear n0_ n1_ n2_ n3_; clear hb hbox hg; have hcz13_0 : w12.cell? ⟨gb191, 0, none⟩ = some (.int .i64 a0_0) := c_ BK191.out 0; have hcz13_1 : w12.cell? ⟨gb191, 1, none⟩ = some (.int .i64 a0_1) := c_ BK191.out 1; have hcz13_2 : w12.cell? ⟨gb191, 2, none⟩ = some (.slice A0_2 l0_2.length c0_2) := c_ BK191.out 2; have hfz13_0 := blk_frozen BK191.out 0; have hfz13_1 := blk_frozen BK191.out 1; have hfz13_2 := blk_frozen BK191.out 2) | ((with_reducible refine gate_callee (f := 8) rfl ?_); refine goesL_ (some 16) rfl rfl Try.func8 (by kernel_rfl) rfl #[.agg #[.int .i64 a0_0, .int .i64 a0_1, .slice A0_2 l0_2.length c0_2], .int .i64 1048576] rfl (by (try simp only [m1_, m2_, m3_]); first | done | rfl) ?_; (with_reducible refine (laws_szLeague.calls a0_0 a0_1 _ _ l0_2 1048576 t192 _ ?side1 ?side2 A2.out).mono ?_); (case side1 => repeat (first | exact (Kd.C_below HR0_2.out HB.out) | (with_reducible refine Kd.C_alloc ?_ _) | (with_reducible refine Kd.C_drewN ?_ _) | (with_reducible refine Kd.C_drew ?_))); (case side2 => exact HC0_2.out); rintro e w14 ⟨rfl, hb⟩; refine ⟨_, rfl, ?_⟩; have n0_ := bb_ BK191 hb; have n1_ := a_ (below_step (L_ HB.out GE191.out GE191.out GE191.out) hb); clear BK191; clear HB; have BK191 := n0_; have HB := n1_; clear n0_ n1_; (try clear hb); (try clear hb2); (try clear hk); (try clear hi); have hcz15_0 : w14.cell? ⟨gb191, 0, none⟩ = some (.int .i64 a0_0) := c_ BK191.out 0; have hcz15_1 : w14.cell? ⟨gb191, 1, none⟩ = some (.int .i64 a0_1) := c_ BK191.out 1; have hcz15_2 : w14.cell? ⟨gb191, 2, none⟩ = some (.slice A0_2 l0_2.length c0_2) := c_ BK191.out 2; have hfz15_0 := blk_frozen BK191.out 0; have hfz15_1 := blk_frozen BK191.out 1; have hfz15_2 := blk_frozen BK191.out 2) | ((with_reducible refine gate_callee (f := 10) rfl ?_); refine goesL_ (some 21) rfl rfl Try.func10 (by kernel_rfl) rfl #[.agg #[.int .i64 a0_0, .int .i64 a0_1, .slice A0_2 l0_2.length c0_2]] rfl (by (try simp only [m1_, m2_, m3_]); first | done | rfl) ?_; (with_reducible refine (laws_toLeague.calls k a0_0 a0_1 _ _ l0_2 t193 t194 t195 _ ?side1 ?side2 A7.out).mono ?_); (case side1 => repeat (first | exact (Kd.C_below HR0_2.out HB.out) | (with_reducible refine Kd.C_alloc ?_ _) | (with_reducible refine Kd.C_drewN ?_ _) | (with_reducible refine Kd.C_drew ?_))); (case side2 => exact HC0_2.out); rintro e w16 ⟨v196, rfl, ho0, hb⟩; refine ⟨_, rfl, ?_⟩; have n0_ := a_ (Kd.R_lower ho0 (below_size (L_ HB.out GE191.out GE191.out GE191.out))); have n1_ := bb_ BK191 hb; have n2_ := a_ (below_step (L_ HB.out GE191.out GE191.out GE191.out) hb); clear BK191; clear HB; have HO197 := n0_; have BK191 := n1_; have HB := n2_; clear n0_ n1_ n2_; (try clear hb); (try clear hb2); (try clear hk); (try clear hi); (try clear ho0); obtain ⟨Ao17, co17, eo17⟩ := Kd.R_slice HO197.out; subst eo17) | ((with_reducible refine gate_callee (f := 19) rfl ?_); refine goesL_ (some 22) rfl rfl Try.func19 (by kernel_rfl) rfl #[.agg #[.int .i64 t193, .int .i64 t194, .slice Ao17 t195.length co17]] rfl (by (try simp only [m1_, m2_, m3_]); first | done | rfl) ?_; (with_reducible refine (spec_LeagueTable.calls k t193 t194 _ _ t195 t198 t201 _ ?side1 ?side2 A8.out).mono ?_); (case side1 => repeat (first | exact (Kd.R_reads' HO197.out).2.2 | (with_reducible refine Kd.C_alloc ?_ _) | (with_reducible refine Kd.C_drewN ?_ _) | (with_reducible refine Kd.C_drew ?_))); (case side2 => exact (Kd.R_reads' HO197.out).2.1); rintro e w18 ⟨v199, rfl, ho0, hb⟩; refine ⟨_, rfl, ?_⟩; have n0_ := a_ (Kd.R_below (R_ HO197.out) hb); have n1_ := a_ (Kd.R_lower ho0 (below_size (L_ HB.out GE191.out GE191.out GE191.out))); have n2_ := bb_ BK191 hb; have n3_ := a_ (below_step (L_ HB.out GE191.out GE191.out GE191.out) hb); clear HO197; clear BK191; clear HB; have HO197 := n0_; have HO200 := n1_; have BK191 := n2_; have HB := n3_; clear n0_ n1_ n2_ n3_; (try clear hb); (try clear hb2); (try clear hk); (try clear hi); (try clear ho0); have hcz19_0 : w18.cell? ⟨gb191, 0, none⟩ = some (.int .i64 a0_0) := c_ BK191.out 0; have hcz19_1 : w18.cell? ⟨gb191, 1, none⟩ = some (.int .i64 a0_1) := c_ BK191.out 1; have hcz19_2 : w18.cell? ⟨gb191, 2, none⟩ = some (.slice A0_2 l0_2.length c0_2) := c_ BK191.out 2; have hfz19_0 := blk_frozen BK191.out 0; have hfz19_1 := blk_frozen BK191.out 1; have hfz19_2 := blk_frozen BK191.out 2) | ((with_reducible refine gate_callee (f := 10) rfl ?_); refine goesL_ (some 26) rfl rfl Try.func10 (by kernel_rfl) rfl #[.agg #[.int .i64 a0_0, .int .i64 a0_1, .slice A0_2 l0_2.length c0_2]] rfl (by (try simp only [m1_, m2_, m3_]); first | done | rfl) ?_; (with_reducible refine (laws_toLeague.calls k a0_0 a0_1 _ _ l0_2 t202 t203 t204 _ ?side1 ?side2 A9.out).mono ?_); (case side1 => repeat (first | exact (Kd.C_below HR0_2.out HB.out) | (with_reducible refine Kd.C_alloc ?_ _) | (with_reducible refine Kd.C_drewN ?_ _) | (with_reducible refine Kd.C_drew ?_))); (case side2 => exact HC0_2.out); rintro e w20 ⟨v205, rfl, ho0, hb⟩; refine ⟨_, rfl, ?_⟩; have n0_ := a_ (Kd.R_elder' (R_ HO197.out) (Kd.R_base ho0) hb); have n1_ := a_ (Kd.R_below (R_ HO200.out) hb); have n2_ := a_ (Kd.R_lower (Kd.R_new' ho0 (Kd.R_lt (R_ HO197.out))) (below_size (L_ HB.out GE191.out GE191.out GE191.out))); have n3_ := bb_ BK191 hb; have n4_ := a_ (below_step (L_ HB.out GE191.out GE191.out GE191.out) hb); clear HO197; clear HO200; clear BK191; clear HB; have HO197 := n0_; have HO200 := n1_; have HO206 := n2_; have BK191 := n3_; have HB := n4_; clear n0_ n1_ n2_ n3_ n4_; (try clear hb); (try clear hb2); (try clear hk); (try clear hi); (try clear ho0)) | ((with_reducible refine gate_dst (N := 6) rfl ?_); refine box_event ?hg (N := 6) ?hd (cs := #[.int .i64 0, .int .i64 0, .slice none 0 0]) (t := 30) ?hr ?_; (case hd => rfl); (case hg => rfl); (case hr => first | (go_simp; done) | (go_simp; rfl)); intro gb207 hg w21 hbox hb; have n0_ := a_ (Kd.R_below (R_ HO197.out) hb); have n1_ := a_ (Kd.R_below (R_ HO200.out) hb); have n2_ := a_ (Kd.R_below (R_ HO206.out) hb); have n3_ := bb_ BK191 hb; have n4_ := a_ (below_step (L_ HB.out GE191.out GE191.out GE191.out) hb); have n5_ := a_ (hbox); have n6_ := a_ ((by rw [hg]; exact (below_size (L_ HB.out GE191.out GE191.out GE191.out)) : w.heap.size ≤ gb207)); have n7_ := a_ ((by rw [hg]; exact (below_size (L_ HB.out GE191.out GE191.out GE191.out)) : w.heap.size ≤ gb207)); have n8_ := a_ ((by rw [hg]; exact Nat.ne_of_lt (blk_lt (B_ BK191.out)) : gb191 ≠ gb207)); have n9_ := a_ ((by rw [hg]; exact Nat.ne_of_gt (blk_lt (B_ BK191.out)) : gb207 ≠ gb191)); clear HO197; clear HO200; clear HO206; clear BK191; clear HB; have HO197 := n0_; have HO200 := n1_; have HO206 := n2_; have BK191 := n3_; have HB := n4_; have BK207 := n5_; have GW207 := n6_; have GE207 := n7_; have NB191_207 := n8_; have NB207_191 := n9_; clear n0_ n1_ n2_ n3_ n4_ n5_ n6_ n7_ n8_ n9_; clear hb hbox hg; have hnb22 := NB207_191.out; have hnc22 := NB191_207.out; have hcz23_0 : w21.cell? ⟨gb207, 0, none⟩ = some (.int .i64 0) := c_ BK207.out 0; have hcz23_1 : w21.cell? ⟨gb207, 1, none⟩ = some (.int .i64 0) := c_ BK207.out 1; have hcz23_2 : w21.cell? ⟨gb207, 2, none⟩ = some (.slice none 0 0) := c_ BK207.out 2; have hfz23_0 := blk_frozen BK207.out 0; have hfz23_1 := blk_frozen BK207.out 1; have hfz23_2 := blk_frozen BK207.out 2; obtain ⟨Ao24, co24, eo24⟩ := Kd.R_slice HO206.out; subst eo24) | ((with_reducible refine gate_callee (f := 20) rfl ?_); refine goesL_ (some 29) rfl rfl Try.func20 (by kernel_rfl) rfl #[.agg #[.int .i64 t202, .int .i64 t203, .slice Ao24 t204.length co24]] rfl (by (try simp only [m1_, m2_, m3_]); first | done | rfl) ?_; (with_reducible refine (impl_LeagueTable.calls k t202 t203 _ _ t204 t208 t211 _ ?side1 ?side2 A10.out).mono ?_); (case side1 => refine (Kd.R_reads' (e := 68) (base := w.heap.size) (ok := fun k_ => (True ∧ some k_ ≠ (.slice Ao17 t195.length co17 : Value).ownBlock)) (n := t204.length) (c := co24) ?_).2.2; exact (by (with_reducible repeat (first | apply Kd.R_alloc | apply Kd.R_drewN | apply Kd.R_drew)); exact (Kd.R_mono (Kd.R_far (p := ⟨gb207, 2, none⟩) (Kd.R_far (p := ⟨gb207, 1, none⟩) (Kd.R_far (p := ⟨gb207, 0, none⟩) (Kd.R_types HO206.out BK207.out (by decide)) (fun _ hk => hk.2) (.int .i64 t202)) (fun _ hk => hk.2) (.int .i64 t203)) (fun _ hk => hk.2) (.slice Ao24 t204.length co24)) (fun _ h_ => h_.1)))); (case side2 => exact (Kd.R_reads' HO206.out).2.1); rintro e w25 ⟨v209, rfl, ho0, hb⟩; refine ⟨_, rfl, ?_⟩; have n0_ := a_ (Kd.R_below (by (with_reducible repeat (first | apply Kd.R_alloc | apply Kd.R_drewN | apply Kd.R_drew)); exact (Kd.R_mono (Kd.R_far (p := ⟨gb207, 2, none⟩) (Kd.R_far (p := ⟨gb207, 1, none⟩) (Kd.R_far (p := ⟨gb207, 0, none⟩) (Kd.R_types HO197.out BK207.out (by decide)) (fun _ hk => hk.2) (.int .i64 t202)) (fun _ hk => hk.2) (.int .i64 t203)) (fun _ hk => hk.2) (.slice Ao24 t204.length co24)) (fun _ h_ => h_.1))) hb); have n1_ := a_ (Kd.R_elder' (by (with_reducible repeat (first | apply Kd.R_alloc | apply Kd.R_drewN | apply Kd.R_drew)); exact (Kd.R_mono (Kd.R_far (p := ⟨gb207, 2, none⟩) (Kd.R_far (p := ⟨gb207, 1, none⟩) (Kd.R_far (p := ⟨gb207, 0, none⟩) (Kd.R_types HO200.out BK207.out (by decide)) (fun _ hk => hk.2) (.int .i64 t202)) (fun _ hk => hk.2) (.int .i64 t203)) (fun _ hk => hk.2) (.slice Ao24 t204.length co24)) (fun _ h_ => h_.1))) (Kd.R_base ho0) hb); have n2_ := a_ (Kd.R_below (by (with_reducible repeat (first | apply Kd.R_alloc | apply Kd.R_drewN | apply Kd.R_drew)); exact (Kd.R_mono (Kd.R_far (p := ⟨gb207, 2, none⟩) (Kd.R_far (p := ⟨gb207, 1, none⟩) (Kd.R_far (p := ⟨gb207, 0, none⟩) (Kd.R_types HO206.out BK207.out (by decide)) (fun _ hk => hk.2) (.int .i64 t202)) (fun _ hk => hk.2) (.int .i64 t203)) (fun _ hk => hk.2) (.slice Ao24 t204.length co24)) (fun _ h_ => h_.1))) hb); have n3_ := a_ (Kd.R_lower (Kd.R_new' ho0 (Kd.R_lt (by (with_reducible repeat (first | apply Kd.R_alloc | apply Kd.R_drewN | apply Kd.R_drew)); exact (Kd.R_mono (Kd.R_far (p := ⟨gb207, 2, none⟩) (Kd.R_far (p := ⟨gb207, 1, none⟩) (Kd.R_far (p := ⟨gb207, 0, none⟩) (Kd.R_types HO200.out BK207.out (by decide)) (fun _ hk => hk.2) (.int .i64 t202)) (fun _ hk => hk.2) (.int .i64 t203)) (fun _ hk => hk.2) (.slice Ao24 t204.length co24)) (fun _ h_ => h_.1))))) (below_size (L_ HB.out GE191.out GE207.out GE207.out))); have n4_ := a_ (blk_below (g := gb191) (o := .cells #[.int .i64 a0_0, .int .i64 a0_1, .slice A0_2 l0_2.length c0_2] 24 (0, 0)) (by (with_reducible repeat (first | refine blk_drewN ?_ _ | refine blk_drew ?_ | refine blk_alloc ?_ _)); refine blk_far ?_ NB191_207.out _; refine blk_far ?_ NB191_207.out _; refine blk_far ?_ NB191_207.out _; exact B_ BK191.out) hb); have n5_ := a_ (blk_below (g := gb207) (o := .cells #[.int .i64 t202, .int .i64 t203, .slice Ao24 t204.length co24] 30 (0, 0)) (by (with_reducible repeat (first | refine blk_drewN ?_ _ | refine blk_drew ?_ | refine blk_alloc ?_ _)); refine blk_put (cs := #[.int .i64 t202, .int .i64 t203, .slice none 0 0]) ?_ 2 _ rfl; (with_reducible repeat (first | refine blk_drewN ?_ _ | refine blk_drew ?_ | refine blk_alloc ?_ _)); refine blk_put (cs := #[.int .i64 t202, .int .i64 0, .slice none 0 0]) ?_ 1 _ rfl; (with_reducible repeat (first | refine blk_drewN ?_ _ | refine blk_drew ?_ | refine blk_alloc ?_ _)); refine blk_put (cs := #[.int .i64 0, .int .i64 0, .slice none 0 0]) ?_ 0 _ rfl; exact B_ BK207.out) hb); have n6_ := a_ (below_step (L_ HB.out GE191.out GE207.out GE207.out) hb); clear HO197; clear HO200; clear HO206; clear BK191; clear BK207; clear HB; have HO197 := n0_; have HO200 := n1_; have HO206 := n2_; have HO210 := n3_; have BK191 := n4_; have BK207 := n5_; have HB := n6_; clear n0_ n1_ n2_ n3_ n4_ n5_ n6_; (try clear hb); (try clear hb2); (try clear hk); (try clear hi); (try clear ho0)))
  (try simp only [Act.put, List.setIfInBounds_toArray, List.set_cons_zero, List.set_cons_succ])
  go_cut [40] (fun v40 wc => ∃ (kq : Nat) (x40_10 : Bool), v40 = .bool x40_10 ∧ Aside0 (laws_FnExactLeagueTable.j0 kq t198 t201 t208 t211 x40_10 a0_0 a0_1 l0_2 t202 t203 t204 = some r) ∧ Aside0 (kq ≤ k) ∧ Aside0 (Kd.R (Kd.int .i64) 3 wc w.heap.size (fun k_ => some k_ ≠ (v209 : Value).ownBlock) v199 t198) ∧ Aside0 (Kd.R (Kd.int .i64) 3 wc w.heap.size (fun k_ => some k_ ≠ (v199 : Value).ownBlock) v209 t208) ∧ Aside0 (Kd.R k68 68 wc w.heap.size (fun _ => True) (.slice Ao24 t204.length co24) t204) ∧ Aside0 (wc.heap[gb191]? = some (.cells #[.int .i64 a0_0, .int .i64 a0_1, (.slice A0_2 l0_2.length c0_2)] 24 (0, 0))) ∧ Aside0 (wc.heap[gb207]? = some (.cells #[.int .i64 t202, .int .i64 t203, (.slice Ao24 t204.length co24)] 30 (0, 0))) ∧ Aside0 (Below w.heap.size w wc))
  case first =>
   have H := HC11.out; clear HC11; replace H := Option.bind_eq_some_iff.mp H; obtain ⟨t212, A260, H⟩ := H; replace H : (if t212 = true then (laws_FnExactLeagueTable.j0 k t198 t201 t208 t211 (t211 != t201) a0_0 a0_1 l0_2 t202 t203 t204) else (laws_FnExactLeagueTable.j0 k t198 t201 t208 t211 true a0_0 a0_1 l0_2 t202 t203 t204)) = some r := H; have A26 := a_ A260; clear A260
   by_cases c27 : t212 = true
   ·
    subst c27; have H1 : (laws_FnExactLeagueTable.j0 k t198 t201 t208 t211 (t211 != t201) a0_0 a0_1 l0_2 t202 t203 t204) = some r := by rw [if_pos rfl] at H; exact H
    clear H; have H := H1; clear H1; have H' := a_ H; clear H; obtain ⟨Ao28, co28, eo28⟩ := Kd.R_slice HO210.out; subst eo28; obtain ⟨Ao29, co29, eo29⟩ := Kd.R_slice HO200.out; subst eo29
    go_wp2_with (first | ((with_reducible refine gate_callee (f := 21) rfl ?_); refine goesL_ (some 34) rfl rfl Try.func21 (by kernel_rfl) rfl #[.slice Ao28 t208.length co28, .slice Ao29 t198.length co29] rfl (by (try simp only [m1_, m2_, m3_]); first | done | rfl) ?_; (with_reducible refine (laws_eqIntS.calls k _ _ t208 _ _ t198 true _ ?side1 ?side2 ?side3 ?side4 A26.out).mono ?_); (case side1 => repeat (first | exact (Kd.R_reads' HO210.out).2.2 | (with_reducible refine Kd.C_alloc ?_ _) | (with_reducible refine Kd.C_drewN ?_ _) | (with_reducible refine Kd.C_drew ?_))); (case side2 => exact (Kd.R_reads' HO210.out).2.1); (case side3 => repeat (first | exact (Kd.R_reads' HO200.out).2.2 | (with_reducible refine Kd.C_alloc ?_ _) | (with_reducible refine Kd.C_drewN ?_ _) | (with_reducible refine Kd.C_drew ?_))); (case side4 => exact (Kd.R_reads' HO200.out).2.1); rintro e w' ⟨rfl, ⟨nd, rfl⟩⟩; refine ⟨_, rfl, ?_⟩))
    go_meet
    case rel => exact ⟨_, ((t211 != t201)), (by first | rfl | (simp; done) | (simp [*]; done)), H', ⟨by first | omega | exact Nat.le_refl _⟩, ⟨by (with_reducible repeat (first | apply Kd.R_alloc | apply Kd.R_drewN | apply Kd.R_drew)); exact Kd.R_mono HO200.out (fun _ hk => hk.2)⟩, ⟨by (with_reducible repeat (first | apply Kd.R_alloc | apply Kd.R_drewN | apply Kd.R_drew)); exact Kd.R_mono HO210.out (fun _ hk => hk.2)⟩, ⟨by (with_reducible repeat (first | apply Kd.R_alloc | apply Kd.R_drewN | apply Kd.R_drew)); exact Kd.R_mono HO206.out (fun _ hk => trivial)⟩, ⟨B_ BK191.out⟩, ⟨B_ BK207.out⟩, ⟨L_ HB.out GE191.out GE207.out GE207.out⟩⟩
   ·
    replace c27 := Bool.eq_false_iff.mpr c27; subst c27; have H1 : (laws_FnExactLeagueTable.j0 k t198 t201 t208 t211 true a0_0 a0_1 l0_2 t202 t203 t204) = some r := by rw [if_neg (show ¬ (false = true) by decide)] at H; exact H
    clear H; have H := H1; clear H1; have H' := a_ H; clear H; obtain ⟨Ao30, co30, eo30⟩ := Kd.R_slice HO210.out; subst eo30; obtain ⟨Ao31, co31, eo31⟩ := Kd.R_slice HO200.out; subst eo31
    go_wp2_with (first | ((with_reducible refine gate_callee (f := 21) rfl ?_); refine goesL_ (some 34) rfl rfl Try.func21 (by kernel_rfl) rfl #[.slice Ao30 t208.length co30, .slice Ao31 t198.length co31] rfl (by (try simp only [m1_, m2_, m3_]); first | done | rfl) ?_; (with_reducible refine (laws_eqIntS.calls k _ _ t208 _ _ t198 false _ ?side1 ?side2 ?side3 ?side4 A26.out).mono ?_); (case side1 => repeat (first | exact (Kd.R_reads' HO210.out).2.2 | (with_reducible refine Kd.C_alloc ?_ _) | (with_reducible refine Kd.C_drewN ?_ _) | (with_reducible refine Kd.C_drew ?_))); (case side2 => exact (Kd.R_reads' HO210.out).2.1); (case side3 => repeat (first | exact (Kd.R_reads' HO200.out).2.2 | (with_reducible refine Kd.C_alloc ?_ _) | (with_reducible refine Kd.C_drewN ?_ _) | (with_reducible refine Kd.C_drew ?_))); (case side4 => exact (Kd.R_reads' HO200.out).2.1); rintro e w' ⟨rfl, ⟨nd, rfl⟩⟩; refine ⟨_, rfl, ?_⟩))
    go_meet
    case rel => exact ⟨_, (true), (by first | rfl | (simp; done) | (simp [*]; done)), H', ⟨by first | omega | exact Nat.le_refl _⟩, ⟨by (with_reducible repeat (first | apply Kd.R_alloc | apply Kd.R_drewN | apply Kd.R_drew)); exact Kd.R_mono HO200.out (fun _ hk => hk.2)⟩, ⟨by (with_reducible repeat (first | apply Kd.R_alloc | apply Kd.R_drewN | apply Kd.R_drew)); exact Kd.R_mono HO210.out (fun _ hk => hk.2)⟩, ⟨by (with_reducible repeat (first | apply Kd.R_alloc | apply Kd.R_drewN | apply Kd.R_drew)); exact Kd.R_mono HO206.out (fun _ hk => trivial)⟩, ⟨B_ BK191.out⟩, ⟨B_ BK207.out⟩, ⟨L_ HB.out GE191.out GE207.out GE207.out⟩⟩
  case rest =>
   clear HC11
   try clear c1
   try clear c2
   try clear p2
   try clear c3
   try clear c3b0
   try clear c7
   try clear c8
   try clear c10
   try clear c19
   try clear c20
   try clear c21
   try clear c22
   try clear c27
   try clear hcz13_0 hcz13_1 hcz13_2
   try clear hcz15_0 hcz15_1 hcz15_2
   try clear hcz19_0 hcz19_1 hcz19_2
   try clear hcz23_0 hcz23_1 hcz23_2
   try clear hcz5_0 hcz5_1 hcz5_2
   try clear hfz13_0 hfz13_1 hfz13_2
   try clear hfz15_0 hfz15_1 hfz15_2
   try clear hfz19_0 hfz19_1 hfz19_2
   try clear hfz23_0 hfz23_1 hfz23_2
   try clear hfz5_0 hfz5_1 hfz5_2
   obtain ⟨kq, x40_10, rfl, HA, HJ10, HO_4, HO_7, HO_208002, BK191, BK207, HB⟩ := hcut
   cases kq with
   | zero => exact absurd HA.out (by simp [laws_FnExactLeagueTable.j0])
   | succ kj10 =>
    have H := HA.out; clear HA; simp only [laws_FnExactLeagueTable.j0] at H
    by_cases c32 : x40_10 = true
    ·
     subst c32; have H1 : (some false) = some r := by rw [if_pos rfl] at H; exact H
     clear H; have H := H1; clear H1; obtain rfl := Option.some.inj H
     go_wp2
     go_ret
     exact ⟨by first | rfl | (simp [errW_none, errW_some] <;> rfl) | (simp [*, errW_none, errW_some] <;> rfl), by repeat (first | (with_reducible first | exact HB.out | apply below_alloc | apply pw_below_drewN | apply below_drew1 | refine below_set ?_ GE191.out | refine below_set ?_ GE207.out) | exact HB.out)⟩
    ·
     replace c32 := Bool.eq_false_iff.mpr c32; subst c32; have H1 : ((laws_toLeague.f kj10 a0_0 a0_1 l0_2).bind fun bt213 => ((laws_eqLeague.f kj10 t202 t203 t204 bt213.1 bt213.2.1 bt213.2.2).bind fun t218 => (if t218 = true then ((laws_markLeague.f kj10 t202 t203 t204 1).bind fun bt219 => (if bt219.1 < 0 then (laws_FnExactLeagueTable.j1 kj10 t198 t201 t208 true a0_0 a0_1 l0_2) else ((laws_eqIntS.f kj10 t208 t198).bind fun t221 => (if t221 = true then (laws_FnExactLeagueTable.j1 kj10 t198 t201 t208 (t211 != t201) a0_0 a0_1 l0_2) else (laws_FnExactLeagueTable.j1 kj10 t198 t201 t208 true a0_0 a0_1 l0_2))))) else (some false)))) = some r := by rw [if_neg (show ¬ (false = true) by decide)] at H; exact H
     clear H; have H := H1; clear H1; replace H := Option.bind_eq_some_iff.mp H; obtain ⟨⟨t213, t214, t215⟩, A330, H⟩ := H; replace H : ((laws_eqLeague.f kj10 t202 t203 t204 t213 t214 t215).bind fun t218 => (if t218 = true then ((laws_markLeague.f kj10 t202 t203 t204 1).bind fun bt219 => (if bt219.1 < 0 then (laws_FnExactLeagueTable.j1 kj10 t198 t201 t208 true a0_0 a0_1 l0_2) else ((laws_eqIntS.f kj10 t208 t198).bind fun t221 => (if t221 = true then (laws_FnExactLeagueTable.j1 kj10 t198 t201 t208 (t211 != t201) a0_0 a0_1 l0_2) else (laws_FnExactLeagueTable.j1 kj10 t198 t201 t208 true a0_0 a0_1 l0_2))))) else (some false))) = some r := H; have A33 := a_ A330; clear A330; replace H := Option.bind_eq_some_iff.mp H; obtain ⟨t218, A340, H⟩ := H; replace H : (if t218 = true then ((laws_markLeague.f kj10 t202 t203 t204 1).bind fun bt219 => (if bt219.1 < 0 then (laws_FnExactLeagueTable.j1 kj10 t198 t201 t208 true a0_0 a0_1 l0_2) else ((laws_eqIntS.f kj10 t208 t198).bind fun t221 => (if t221 = true then (laws_FnExactLeagueTable.j1 kj10 t198 t201 t208 (t211 != t201) a0_0 a0_1 l0_2) else (laws_FnExactLeagueTable.j1 kj10 t198 t201 t208 true a0_0 a0_1 l0_2))))) else (some false)) = some r := H; have A34 := a_ A340; clear A340
     by_cases c35 : t218 = true
     ·
      subst c35; have H1 : ((laws_markLeague.f kj10 t202 t203 t204 1).bind fun bt219 => (if bt219.1 < 0 then (laws_FnExactLeagueTable.j1 kj10 t198 t201 t208 true a0_0 a0_1 l0_2) else ((laws_eqIntS.f kj10 t208 t198).bind fun t221 => (if t221 = true then (laws_FnExactLeagueTable.j1 kj10 t198 t201 t208 (t211 != t201) a0_0 a0_1 l0_2) else (laws_FnExactLeagueTable.j1 kj10 t198 t201 t208 true a0_0 a0_1 l0_2))))) = some r := by rw [if_pos rfl] at H; exact H
      clear H; have H := H1; clear H1; replace H := Option.bind_eq_some_iff.mp H; obtain ⟨⟨t219, t220⟩, A360, H⟩ := H; replace H : (if t219 < 0 then (laws_FnExactLeagueTable.j1 kj10 t198 t201 t208 true a0_0 a0_1 l0_2) else ((laws_eqIntS.f kj10 t208 t198).bind fun t221 => (if t221 = true then (laws_FnExactLeagueTable.j1 kj10 t198 t201 t208 (t211 != t201) a0_0 a0_1 l0_2) else (laws_FnExactLeagueTable.j1 kj10 t198 t201 t208 true a0_0 a0_1 l0_2)))) = some r := H; have A36 := a_ A360; clear A360; have HC37 := a_ H; clear H
      try go_wp2
      have n0_ := a_ (Kd.R_drew HO_4.out); have n1_ := a_ (Kd.R_drew HO_7.out); have n2_ := a_ (Kd.R_drew HO_208002.out); have n3_ := a_ (blk_drew BK191.out); have n4_ := a_ (blk_drew BK207.out); have n5_ := a_ (below_drew1 HB.out); clear HO_4; clear HO_7; clear HO_208002; clear BK191; clear BK207; clear HB; have HO_4 := n0_; have HO_7 := n1_; have HO_208002 := n2_; have BK191 := n3_; have BK207 := n4_; have HB := n5_; clear n0_ n1_ n2_ n3_ n4_ n5_
      refine start_ (n := 5) (S := fun w' => w'.cell? ⟨gb207, 0, none⟩ = some (.int .i64 t202) ∧ w'.cell? ⟨gb207, 1, none⟩ = some (.int .i64 t203) ∧ w'.cell? ⟨gb207, 2, none⟩ = some (.slice Ao24 t204.length co24) ∧ w'.cell? ⟨gb191, 0, none⟩ = some (.int .i64 a0_0) ∧ w'.cell? ⟨gb191, 1, none⟩ = some (.int .i64 a0_1) ∧ w'.cell? ⟨gb191, 2, none⟩ = some (.slice A0_2 l0_2.length c0_2)) (ds := []) #[false, false, false, false, false] (by kernel_rfl) rfl rfl ⟨c_ BK207.out 0, c_ BK207.out 1, c_ BK207.out 2, c_ BK191.out 0, c_ BK191.out 1, c_ BK191.out 2⟩ (fun hHeld => ?_)
      generalize wc.drew = w38 at HO_4 HO_7 HO_208002 BK191 BK207 HB hHeld ⊢
      refine take_ (i := 0) (N := some 41) (v := ?_) (a' := ?_) #[true, false, false, false, false] rfl rfl (by kernel_rfl) (fun _ _ _ h => h) (Or.inl ⟨by rfl, ?_⟩) hHeld ?_ ?_
      rotate_left
      ·
       rintro w' ⟨s0, s1, s2, s3, s4, s5⟩
       go_simp
       with_reducible rfl
      rotate_left
      ·
       simp only [Act.put, List.setIfInBounds_toArray, List.set_cons_zero, List.set_cons_succ, i64_w, i32_w]
       rfl
      refine take_ (i := 1) (N := some 42) (v := ?_) (a' := ?_) #[true, true, false, false, false] rfl rfl (by kernel_rfl) (fun _ _ _ h => h) (Or.inl ⟨by rfl, ?_⟩) hHeld ?_ ?_
      rotate_left
      ·
       rintro w' ⟨s0, s1, s2, s3, s4, s5⟩
       go_simp
       with_reducible rfl
      rotate_left
      ·
       simp only [Act.put, List.setIfInBounds_toArray, List.set_cons_zero, List.set_cons_succ, i64_w, i32_w]
       rfl
      refine one_ (i := 2) (N := some 43) #[true, true, true, false, false] rfl rfl (by kernel_rfl) (by decide) (fun K hK => ?_)
      refine goes_ Try.func10 (by kernel_rfl) rfl #[.agg #[.int .i64 a0_0, .int .i64 a0_1, .slice A0_2 l0_2.length c0_2]] (by rfl) rfl rfl (by (try simp only [m1_, m2_, m3_]); first | done | rfl) ?_
      with_reducible refine (laws_toLeague.calls kj10 a0_0 a0_1 _ _ l0_2 t213 t214 t215 _ ?side1 ?side2 A33.out).mono ?_
      (case side1 => repeat (first | exact (Kd.C_below HR0_2.out HB.out) | (with_reducible refine Kd.C_alloc ?_ _) | (with_reducible refine Kd.C_drewN ?_ _) | (with_reducible refine Kd.C_drew ?_)))
      (case side2 => exact HC0_2.out)
      rintro e w39 ⟨v216, rfl, ho0, hb⟩
      refine ⟨_, rfl, ?_⟩
      have n0_ := a_ (Kd.R_below (R_ HO_4.out) hb); have n1_ := a_ (Kd.R_below (R_ HO_7.out) hb); have n2_ := a_ (Kd.R_elder' (R_ HO_208002.out) (Kd.R_base ho0) hb); have n3_ := a_ (Kd.R_lower (Kd.R_new' ho0 (Kd.R_lt (R_ HO_208002.out))) (below_size (L_ HB.out GE191.out GE207.out GE207.out))); have n4_ := bb_ BK191 hb; have n5_ := bb_ BK207 hb; have n6_ := a_ (below_step (L_ HB.out GE191.out GE207.out GE207.out) hb); clear HO_4; clear HO_7; clear HO_208002; clear BK191; clear BK207; clear HB; have HO_4 := n0_; have HO_7 := n1_; have HO_208002 := n2_; have HO217 := n3_; have BK191 := n4_; have BK207 := n5_; have HB := n6_; clear n0_ n1_ n2_ n3_ n4_ n5_ n6_
      (try clear hb)
      (try clear hb2)
      (try clear hk)
      (try clear hi)
      (try clear ho0)
      obtain ⟨Ao40, co40, eo40⟩ := Kd.R_slice HO217.out
      (first | subst eo40 | (injection eo40 with f1_ f2_ f3_; have f4_ := f1_.symm; have f5_ := f3_.symm; clear f1_ f2_ f3_; subst f4_; subst f5_))
      refine hK.out _ _ ⟨c_ BK207.out 0, c_ BK207.out 1, c_ BK207.out 2, c_ BK191.out 0, c_ BK191.out 1, c_ BK191.out 2⟩ (fun hHeld => ?_)
      clear hK K
      refine norm_ (a' := ?_) ?_ ?_
      rotate_left
      ·
       show Act.put _ (some 43) _ = _
       simp only [Act.put, List.setIfInBounds_toArray, List.set_cons_zero, List.set_cons_succ, i64_w, i32_w]
       rfl
      refine one_ (i := 3) (N := some 44) #[true, true, true, true, false] rfl rfl (by kernel_rfl) (by decide) (fun K hK => ?_)
      refine goes_ Try.func12 (by kernel_rfl) rfl #[.agg #[.int .i64 t202, .int .i64 t203, .slice Ao24 t204.length co24], .agg #[.int .i64 t213, .int .i64 t214, .slice Ao40 t215.length co40]] (by rfl) rfl rfl (by (try simp only [m1_, m2_, m3_]); first | done | rfl) ?_
      with_reducible refine (laws_eqLeague.calls kj10 t202 t203 _ _ t204 t213 t214 _ _ t215 true _ ?side1 ?side2 ?side3 ?side4 A34.out).mono ?_
      (case side1 => repeat (first | exact (Kd.R_reads' HO_208002.out).2.2 | (with_reducible refine Kd.C_alloc ?_ _) | (with_reducible refine Kd.C_drewN ?_ _) | (with_reducible refine Kd.C_drew ?_)))
      (case side2 => exact (Kd.R_reads' HO_208002.out).2.1)
      (case side3 => repeat (first | exact (Kd.R_reads' HO217.out).2.2 | (with_reducible refine Kd.C_alloc ?_ _) | (with_reducible refine Kd.C_drewN ?_ _) | (with_reducible refine Kd.C_drew ?_)))
      (case side4 => exact (Kd.R_reads' HO217.out).2.1)
      rintro e w41 ⟨rfl, hb⟩
      refine ⟨_, rfl, ?_⟩
      have n0_ := a_ (Kd.R_below (R_ HO_4.out) hb); have n1_ := a_ (Kd.R_below (R_ HO_7.out) hb); have n2_ := a_ (Kd.R_below (R_ HO_208002.out) hb); have n3_ := a_ (Kd.R_below (R_ HO217.out) hb); have n4_ := bb_ BK191 hb; have n5_ := bb_ BK207 hb; have n6_ := a_ (below_step (L_ HB.out GE191.out GE207.out GE207.out) hb); clear HO_4; clear HO_7; clear HO_208002; clear HO217; clear BK191; clear BK207; clear HB; have HO_4 := n0_; have HO_7 := n1_; have HO_208002 := n2_; have HO217 := n3_; have BK191 := n4_; have BK207 := n5_; have HB := n6_; clear n0_ n1_ n2_ n3_ n4_ n5_ n6_
      (try clear hb)
      (try clear hb2)
      (try clear hk)
      (try clear hi)
      refine hK.out _ _ ⟨c_ BK207.out 0, c_ BK207.out 1, c_ BK207.out 2, c_ BK191.out 0, c_ BK191.out 1, c_ BK191.out 2⟩ (fun hHeld => ?_)
      clear hK K
      refine norm_ (a' := ?_) ?_ ?_
      rotate_left
      ·
       show Act.put _ (some 44) _ = _
       simp only [Act.put, List.setIfInBounds_toArray, List.set_cons_zero, List.set_cons_succ, i64_w, i32_w]
       rfl
      refine pure_ (i := 4) (N := some 45) (v := ?_) (a' := ?_) #[true, true, true, true, true] rfl rfl (by kernel_rfl) (fun _ _ _ h => h) (Or.inl ⟨by rfl, ?_⟩) ?_ ?_
      rotate_left
      ·
       intro w'
       go_simp
       with_reducible rfl
      rotate_left
      ·
       simp only [Act.put, List.setIfInBounds_toArray, List.set_cons_zero, List.set_cons_succ, i64_w, i32_w]
       rfl
      refine done_ (by kernel_rfl) ?_
      have hnb42 := NB207_191.out; have hnc42 := NB191_207.out; have hcz43_0 : w41.cell? ⟨gb207, 0, none⟩ = some (.int .i64 t202) := c_ BK207.out 0; have hcz43_1 : w41.cell? ⟨gb207, 1, none⟩ = some (.int .i64 t203) := c_ BK207.out 1; have hcz43_2 : w41.cell? ⟨gb207, 2, none⟩ = some (.slice Ao24 t204.length co24) := c_ BK207.out 2; have hfz43_0 := blk_frozen BK207.out 0; have hfz43_1 := blk_frozen BK207.out 1; have hfz43_2 := blk_frozen BK207.out 2
      go_upto_region 14 with (first | ((with_reducible refine gate_callee (f := 22) rfl ?_); refine goesL_ (some 48) rfl rfl Try.func22 (by kernel_rfl) rfl #[.agg #[.int .i64 t202, .int .i64 t203, .slice Ao24 t204.length co24], .int .i64 1] rfl (by (try simp only [m1_, m2_, m3_]); first | done | rfl) ?_; (with_reducible refine (laws_markLeague.calls kj10 t202 t203 (fun k_ => some k_ = (.slice Ao24 t204.length co24 : Value).ownBlock) (.slice Ao24 t204.length co24) t204 1 t219 t220 w _ ?side1 ?side2 A36.out).mono ?_); (case side1 => repeat (first | (with_reducible first | exact HB.out | apply below_alloc | apply pw_below_drewN | apply below_drew1 | refine below_set ?_ GE191.out | refine below_set ?_ GE207.out) | exact HB.out)); (case side2 => exact Kd.R_tight rfl HO_208002.out); rintro e w44 ⟨rfl, hy0, hb, hkp⟩; refine ⟨_, rfl, ?_⟩; have n0_ := a_ (Kd.R_mono (ok' := fun k_ => some k_ ≠ (v209 : Value).ownBlock) (Kd.R_keptB ((Kd.R_apart' HO_4.out (Kd.R_typed HO_208002.out) (by decide))) hkp (fun k_ hk_ hs_ => (hk_.2) hs_)) (fun k_ hk_ => hk_.1.1)); have n1_ := a_ (Kd.R_mono (ok' := fun k_ => some k_ ≠ (v199 : Value).ownBlock) (Kd.R_keptB ((Kd.R_apart' HO_7.out (Kd.R_typed HO_208002.out) (by decide))) hkp (fun k_ hk_ hs_ => (hk_.2) hs_)) (fun k_ hk_ => hk_.1.1)); have n2_ := a_ (Kd.R_reok rfl hy0 (fun k_ e_ => HO_208002.out.1 k_ e_)); have n3_ := a_ (blk_kept (B_ BK191.out) hkp (fun hs_ => (fun e_ => (Kd.R_ne HO_208002.out BK191.out (by decide)) e_) hs_)); have n4_ := a_ (blk_kept (B_ BK207.out) hkp (fun hs_ => (fun e_ => (Kd.R_ne HO_208002.out BK207.out (by decide)) e_) hs_)); have n5_ := a_ (Kd.R_mono (ok' := fun k_ => some k_ ≠ (.slice Ao24 t204.length co24 : Value).ownBlock) (Kd.R_keptB (HO217.out) hkp (fun k_ hk_ hs_ => (hk_.2) hs_)) (fun k_ hk_ => hk_.1.2)); have n6_ := a_ (hb); clear HO_4; clear HO_7; clear HO_208002; clear BK191; clear BK207; clear HO217; clear HB; have HO_4 := n0_; have HO_7 := n1_; have HO_208002 := n2_; have BK191 := n3_; have BK207 := n4_; have HO217 := n5_; have HB := n6_; clear n0_ n1_ n2_ n3_ n4_ n5_ n6_; (try clear hb); (try clear hkp); (try clear hy0)))
      (try simp only [Act.put, List.setIfInBounds_toArray, List.set_cons_zero, List.set_cons_succ])
      go_cut [61] (fun v61 wc => ∃ (kq : Nat) (x61_36 : Bool), v61 = .bool x61_36 ∧ Aside0 (laws_FnExactLeagueTable.j1 kq t198 t201 t208 x61_36 a0_0 a0_1 l0_2 = some r) ∧ Aside0 (kq ≤ kj10) ∧ Aside0 (Kd.R (Kd.int .i64) 3 wc w.heap.size (fun k_ => some k_ ≠ (v209 : Value).ownBlock) v199 t198) ∧ Aside0 (Kd.R (Kd.int .i64) 3 wc w.heap.size (fun k_ => some k_ ≠ (v199 : Value).ownBlock) v209 t208) ∧ Aside0 (Kd.R k68 68 wc w.heap.size (fun _ => True) (.slice Ao24 t204.length co24) t220) ∧ Aside0 (wc.heap[gb191]? = some (.cells #[.int .i64 a0_0, .int .i64 a0_1, (.slice A0_2 l0_2.length c0_2)] 24 (0, 0))) ∧ Aside0 (wc.heap[gb207]? = some (.cells #[.int .i64 t202, .int .i64 t203, (.slice Ao24 t204.length co24)] 30 (0, 0))) ∧ Aside0 (Below w.heap.size w wc))
      case first =>
       have H := HC37.out; clear HC37
       by_cases c45 : t219 < 0
       ·
        rw [if_pos c45] at H; have c45b0 : decide (t219 < 0) = true := decide_eq_true c45; clear c45
        (first | rw [c45b0] | (simp only [i64_w, i32_w]; rw [c45b0]) | skip)
        have H' := a_ H; clear H
        go_wp2
        go_meet
        case rel => exact ⟨_, (true), (by first | rfl | (simp; done) | (simp [*]; done)), H', ⟨by have := HJ10.out; first | omega | exact Nat.le_refl _⟩, ⟨R_ HO_4.out⟩, ⟨R_ HO_7.out⟩, ⟨by (with_reducible repeat (first | apply Kd.R_alloc | apply Kd.R_drewN | apply Kd.R_drew)); exact Kd.R_mono HO_208002.out (fun _ hk => trivial)⟩, ⟨B_ BK191.out⟩, ⟨B_ BK207.out⟩, ⟨L_ HB.out GE191.out GE207.out GE207.out⟩⟩
       ·
        rw [if_neg c45] at H; have c45b0 : decide (t219 < 0) = false := decide_eq_false c45; clear c45
        (first | rw [c45b0] | (simp only [i64_w, i32_w]; rw [c45b0]) | skip)
        replace H := Option.bind_eq_some_iff.mp H; obtain ⟨t221, A460, H⟩ := H; replace H : (if t221 = true then (laws_FnExactLeagueTable.j1 kj10 t198 t201 t208 (t211 != t201) a0_0 a0_1 l0_2) else (laws_FnExactLeagueTable.j1 kj10 t198 t201 t208 true a0_0 a0_1 l0_2)) = some r := H; have A46 := a_ A460; clear A460
        by_cases c47 : t221 = true
        ·
         subst c47; have H1 : (laws_FnExactLeagueTable.j1 kj10 t198 t201 t208 (t211 != t201) a0_0 a0_1 l0_2) = some r := by rw [if_pos rfl] at H; exact H
         clear H; have H := H1; clear H1; have H' := a_ H; clear H; obtain ⟨Ao48, co48, eo48⟩ := Kd.R_slice HO_7.out; subst eo48; obtain ⟨Ao49, co49, eo49⟩ := Kd.R_slice HO_4.out; subst eo49
         go_wp2_with (first | (go_at_call 21; (with_reducible refine (laws_eqIntS.calls kj10 _ _ t208 _ _ t198 true _ ?side1 ?side2 ?side3 ?side4 A46.out).mono ?_); (case side1 => repeat (first | exact (Kd.R_reads' HO_7.out).2.2 | (with_reducible refine Kd.C_alloc ?_ _) | (with_reducible refine Kd.C_drewN ?_ _) | (with_reducible refine Kd.C_drew ?_))); (case side2 => exact (Kd.R_reads' HO_7.out).2.1); (case side3 => repeat (first | exact (Kd.R_reads' HO_4.out).2.2 | (with_reducible refine Kd.C_alloc ?_ _) | (with_reducible refine Kd.C_drewN ?_ _) | (with_reducible refine Kd.C_drew ?_))); (case side4 => exact (Kd.R_reads' HO_4.out).2.1); rintro e w' ⟨rfl, ⟨nd, rfl⟩⟩))
         go_meet
         case rel => exact ⟨_, ((t211 != t201)), (by first | rfl | (simp; done) | (simp [*]; done)), H', ⟨by have := HJ10.out; first | omega | exact Nat.le_refl _⟩, ⟨R_ HO_4.out⟩, ⟨R_ HO_7.out⟩, ⟨by (with_reducible repeat (first | apply Kd.R_alloc | apply Kd.R_drewN | apply Kd.R_drew)); exact Kd.R_mono HO_208002.out (fun _ hk => trivial)⟩, ⟨B_ BK191.out⟩, ⟨B_ BK207.out⟩, ⟨L_ HB.out GE191.out GE207.out GE207.out⟩⟩
        ·
         replace c47 := Bool.eq_false_iff.mpr c47; subst c47; have H1 : (laws_FnExactLeagueTable.j1 kj10 t198 t201 t208 true a0_0 a0_1 l0_2) = some r := by rw [if_neg (show ¬ (false = true) by decide)] at H; exact H
         clear H; have H := H1; clear H1; have H' := a_ H; clear H; obtain ⟨Ao50, co50, eo50⟩ := Kd.R_slice HO_7.out; subst eo50; obtain ⟨Ao51, co51, eo51⟩ := Kd.R_slice HO_4.out; subst eo51
         go_wp2_with (first | (go_at_call 21; (with_reducible refine (laws_eqIntS.calls kj10 _ _ t208 _ _ t198 false _ ?side1 ?side2 ?side3 ?side4 A46.out).mono ?_); (case side1 => repeat (first | exact (Kd.R_reads' HO_7.out).2.2 | (with_reducible refine Kd.C_alloc ?_ _) | (with_reducible refine Kd.C_drewN ?_ _) | (with_reducible refine Kd.C_drew ?_))); (case side2 => exact (Kd.R_reads' HO_7.out).2.1); (case side3 => repeat (first | exact (Kd.R_reads' HO_4.out).2.2 | (with_reducible refine Kd.C_alloc ?_ _) | (with_reducible refine Kd.C_drewN ?_ _) | (with_reducible refine Kd.C_drew ?_))); (case side4 => exact (Kd.R_reads' HO_4.out).2.1); rintro e w' ⟨rfl, ⟨nd, rfl⟩⟩))
         go_meet
         case rel => exact ⟨_, (true), (by first | rfl | (simp; done) | (simp [*]; done)), H', ⟨by have := HJ10.out; first | omega | exact Nat.le_refl _⟩, ⟨R_ HO_4.out⟩, ⟨R_ HO_7.out⟩, ⟨by (with_reducible repeat (first | apply Kd.R_alloc | apply Kd.R_drewN | apply Kd.R_drew)); exact Kd.R_mono HO_208002.out (fun _ hk => trivial)⟩, ⟨B_ BK191.out⟩, ⟨B_ BK207.out⟩, ⟨L_ HB.out GE191.out GE207.out GE207.out⟩⟩
      case rest =>
       clear HC37
       try clear c1
       try clear c2
       try clear p2
       try clear c3
       try clear c3b0
       try clear c4
       try clear c7
       try clear c8
       try clear c10
       try clear c12
       try clear c19
       try clear c20
       try clear c21
       try clear c22
       try clear c27
       try clear c32
       try clear c35
       try clear c42
       try clear c45
       try clear c45b0
       try clear c47
       try clear hcz13_0 hcz13_1 hcz13_2
       try clear hcz15_0 hcz15_1 hcz15_2
       try clear hcz19_0 hcz19_1 hcz19_2
       try clear hcz23_0 hcz23_1 hcz23_2
       try clear hcz43_0 hcz43_1 hcz43_2
       try clear hcz5_0 hcz5_1 hcz5_2
       try clear hfz13_0 hfz13_1 hfz13_2
       try clear hfz15_0 hfz15_1 hfz15_2
       try clear hfz19_0 hfz19_1 hfz19_2
       try clear hfz23_0 hfz23_1 hfz23_2
       try clear hfz43_0 hfz43_1 hfz43_2
       try clear hfz5_0 hfz5_1 hfz5_2
       try clear p2
       obtain ⟨kq, x61_36, rfl, HA, HJ36, HO_4, HO_7, HO_208002, BK191, BK207, HB⟩ := hcut; have hl208002_36 := (Kd.R_reads' HO_208002.out).1; rw [hl208002_36] at HO_208002
       (try simp only [hl208002_36])
       (try simp only [hl208002_36] at BK191)
       (try simp only [hl208002_36] at BK207)
       (try simp only [hl208002_36] at HO_4)
       (try simp only [hl208002_36] at HO_7)
       cases kq with
       | zero => exact absurd HA.out (by simp [laws_FnExactLeagueTable.j1])
       | succ kj36 =>
        have H := HA.out; clear HA; simp only [laws_FnExactLeagueTable.j1] at H
        by_cases c52 : x61_36 = true
        ·
         subst c52; have H1 : (some false) = some r := by rw [if_pos rfl] at H; exact H
         clear H; have H := H1; clear H1; obtain rfl := Option.some.inj H
         go_wp2
         go_ret
         exact ⟨by first | rfl | (simp [errW_none, errW_some] <;> rfl) | (simp [*, errW_none, errW_some] <;> rfl), by repeat (first | (with_reducible first | exact HB.out | apply below_alloc | apply pw_below_drewN | apply below_drew1 | refine below_set ?_ GE191.out | refine below_set ?_ GE207.out) | exact HB.out)⟩
        ·
         replace c52 := Bool.eq_false_iff.mpr c52; subst c52; have H1 : ((laws_markIntS.f kj36 t208 1).bind fun bt222 => ((laws_heldIntS.f kj36 bt222.2 1).bind fun t224 => (if t224 < 0 then (some false) else (if t224 = bt222.1 then ((laws_toLeague.f kj36 a0_0 a0_1 l0_2).bind fun bt225 => ((impl_LeagueTable.f kj36 bt225.1 bt225.2.1 bt225.2.2).bind fun bt230 => ((laws_eqIntS.f kj36 bt230.1 t198).bind fun t234 => (if t234 = true then (laws_FnExactLeagueTable.j2 kj36 bt222.2 bt222.1 (bt230.2 != t201)) else (laws_FnExactLeagueTable.j2 kj36 bt222.2 bt222.1 true))))) else (some false))))) = some r := by rw [if_neg (show ¬ (false = true) by decide)] at H; exact H
         clear H; have H := H1; clear H1; replace H := Option.bind_eq_some_iff.mp H; obtain ⟨⟨t222, t223⟩, A530, H⟩ := H; replace H : ((laws_heldIntS.f kj36 t223 1).bind fun t224 => (if t224 < 0 then (some false) else (if t224 = t222 then ((laws_toLeague.f kj36 a0_0 a0_1 l0_2).bind fun bt225 => ((impl_LeagueTable.f kj36 bt225.1 bt225.2.1 bt225.2.2).bind fun bt230 => ((laws_eqIntS.f kj36 bt230.1 t198).bind fun t234 => (if t234 = true then (laws_FnExactLeagueTable.j2 kj36 t223 t222 (bt230.2 != t201)) else (laws_FnExactLeagueTable.j2 kj36 t223 t222 true))))) else (some false)))) = some r := H; have A53 := a_ A530; clear A530; replace H := Option.bind_eq_some_iff.mp H; obtain ⟨t224, A540, H⟩ := H; replace H : (if t224 < 0 then (some false) else (if t224 = t222 then ((laws_toLeague.f kj36 a0_0 a0_1 l0_2).bind fun bt225 => ((impl_LeagueTable.f kj36 bt225.1 bt225.2.1 bt225.2.2).bind fun bt230 => ((laws_eqIntS.f kj36 bt230.1 t198).bind fun t234 => (if t234 = true then (laws_FnExactLeagueTable.j2 kj36 t223 t222 (bt230.2 != t201)) else (laws_FnExactLeagueTable.j2 kj36 t223 t222 true))))) else (some false))) = some r := H; have A54 := a_ A540; clear A540
         by_cases c55 : t224 < 0
         ·
          rw [if_pos c55] at H; have c55b0 : decide (t224 < 0) = true := decide_eq_true c55; clear c55; obtain rfl := Option.some.inj H; obtain ⟨Ao56, co56, eo56⟩ := Kd.R_slice HO_7.out; subst eo56
          go_wp2_with (first | ((with_reducible refine gate_callee (f := 23) rfl ?_); refine goesL_ (some 64) rfl rfl Try.func23 (by kernel_rfl) rfl #[.slice Ao56 t208.length co56, .int .i64 1] rfl (by (try simp only [m1_, m2_, m3_]); first | done | rfl) ?_; (with_reducible refine (laws_markIntS.calls kj36 (fun k_ => some k_ = (.slice Ao56 t208.length co56 : Value).ownBlock) (.slice Ao56 t208.length co56) t208 1 t222 t223 w _ ?side1 ?side2 A53.out).mono ?_); (case side1 => repeat (first | (with_reducible first | exact HB.out | apply below_alloc | apply pw_below_drewN | apply below_drew1 | refine below_set ?_ GE191.out | refine below_set ?_ GE207.out) | exact HB.out)); (case side2 => exact Kd.R_tight rfl HO_7.out); rintro e w57 ⟨rfl, hy0, hb, hkp⟩; refine ⟨_, rfl, ?_⟩; have n0_ := a_ (Kd.R_mono (ok' := fun k_ => some k_ ≠ (.slice Ao56 t208.length co56 : Value).ownBlock) (Kd.R_keptB (HO_4.out) hkp (fun k_ hk_ hs_ => (hk_) hs_)) (fun k_ hk_ => hk_.1)); have n1_ := a_ (Kd.R_reok rfl hy0 (fun k_ e_ => HO_7.out.1 k_ e_)); have n2_ := a_ (Kd.R_mono (ok' := fun k_ => True) (Kd.R_keptB ((Kd.R_apart' HO_208002.out (Kd.R_typed HO_7.out) (by decide))) hkp (fun k_ hk_ hs_ => (hk_.2) hs_)) (fun k_ hk_ => trivial)); have n3_ := a_ (blk_kept (B_ BK191.out) hkp (fun hs_ => (fun e_ => (Kd.R_ne HO_7.out BK191.out (by decide)) e_) hs_)); have n4_ := a_ (blk_kept (B_ BK207.out) hkp (fun hs_ => (fun e_ => (Kd.R_ne HO_7.out BK207.out (by decide)) e_) hs_)); have n5_ := a_ (hb); clear HO_4; clear HO_7; clear HO_208002; clear BK191; clear BK207; clear HB; have HO_4 := n0_; have HO_7 := n1_; have HO_208002 := n2_; have BK191 := n3_; have BK207 := n4_; have HB := n5_; clear n0_ n1_ n2_ n3_ n4_ n5_; (try clear hb); (try clear hkp); (try clear hy0)) | ((with_reducible refine gate_callee (f := 24) rfl ?_); refine goesL_ (some 67) rfl rfl Try.func24 (by kernel_rfl) rfl #[.slice Ao56 t223.length co56, .int .i64 1] rfl (by (try simp only [List.map_toArray, List.map_cons, List.map_nil]); first | done | (rw [show t223.length = t208.length from (Kd.R_reads' HO_7.out).1.symm] <;> rfl) | rfl | (simp only [List.length_drop, List.length_take]; rfl)) ?_; (with_reducible refine (laws_heldIntS.calls kj36 _ _ t223 1 t224 _ ?side1 ?side2 A54.out).mono ?_); (case side1 => repeat (first | exact (Kd.R_reads' HO_7.out).2.2 | (with_reducible refine Kd.C_alloc ?_ _) | (with_reducible refine Kd.C_drewN ?_ _) | (with_reducible refine Kd.C_drew ?_))); (case side2 => rw [show t223.length = t208.length from (Kd.R_reads' HO_7.out).1.symm]; exact (Kd.R_reads' HO_7.out).2.1); rintro e w' ⟨rfl, ⟨nd, rfl⟩⟩; refine ⟨_, rfl, ?_⟩))
          go_ret
          exact ⟨by first | rfl | (simp [errW_none, errW_some] <;> rfl) | (simp [*, errW_none, errW_some] <;> rfl), by repeat (first | (with_reducible first | exact HB.out | apply below_alloc | apply pw_below_drewN | apply below_drew1 | refine below_set ?_ GE191.out | refine below_set ?_ GE207.out) | exact HB.out)⟩
         ·
          rw [if_neg c55] at H; have c55b0 : decide (t224 < 0) = false := decide_eq_false c55; clear c55
          by_cases c58 : t224 = t222
          ·
           rw [if_pos c58] at H; have c58b0 : (t224 == t222) = true := beq_iff_eq.mpr c58; have c58b1 : (t224 != t222) = false := bne_eq_false_iff_eq.mpr c58; clear c58; replace H := Option.bind_eq_some_iff.mp H; obtain ⟨⟨t225, t226, t227⟩, A590, H⟩ := H; replace H : ((impl_LeagueTable.f kj36 t225 t226 t227).bind fun bt230 => ((laws_eqIntS.f kj36 bt230.1 t198).bind fun t234 => (if t234 = true then (laws_FnExactLeagueTable.j2 kj36 t223 t222 (bt230.2 != t201)) else (laws_FnExactLeagueTable.j2 kj36 t223 t222 true)))) = some r := H; have A59 := a_ A590; clear A590; replace H := Option.bind_eq_some_iff.mp H; obtain ⟨⟨t230, t233⟩, A600, H⟩ := H; replace H : ((laws_eqIntS.f kj36 t230 t198).bind fun t234 => (if t234 = true then (laws_FnExactLeagueTable.j2 kj36 t223 t222 (t233 != t201)) else (laws_FnExactLeagueTable.j2 kj36 t223 t222 true))) = some r := H; have A60 := a_ A600; clear A600; have HC61 := a_ H; clear H; obtain ⟨Ao62, co62, eo62⟩ := Kd.R_slice HO_7.out; subst eo62
           go_upto_region 25 with (first | ((with_reducible refine gate_callee (f := 23) rfl ?_); refine goesL_ (some 64) rfl rfl Try.func23 (by kernel_rfl) rfl #[.slice Ao62 t208.length co62, .int .i64 1] rfl (by (try simp only [m1_, m2_, m3_]); first | done | rfl) ?_; (with_reducible refine (laws_markIntS.calls kj36 (fun k_ => some k_ = (.slice Ao62 t208.length co62 : Value).ownBlock) (.slice Ao62 t208.length co62) t208 1 t222 t223 w _ ?side1 ?side2 A53.out).mono ?_); (case side1 => repeat (first | (with_reducible first | exact HB.out | apply below_alloc | apply pw_below_drewN | apply below_drew1 | refine below_set ?_ GE191.out | refine below_set ?_ GE207.out) | exact HB.out)); (case side2 => exact Kd.R_tight rfl HO_7.out); rintro e w63 ⟨rfl, hy0, hb, hkp⟩; refine ⟨_, rfl, ?_⟩; have n0_ := a_ (Kd.R_mono (ok' := fun k_ => some k_ ≠ (.slice Ao62 t208.length co62 : Value).ownBlock) (Kd.R_keptB (HO_4.out) hkp (fun k_ hk_ hs_ => (hk_) hs_)) (fun k_ hk_ => hk_.1)); have n1_ := a_ (Kd.R_reok rfl hy0 (fun k_ e_ => HO_7.out.1 k_ e_)); have n2_ := a_ (Kd.R_mono (ok' := fun k_ => True) (Kd.R_keptB ((Kd.R_apart' HO_208002.out (Kd.R_typed HO_7.out) (by decide))) hkp (fun k_ hk_ hs_ => (hk_.2) hs_)) (fun k_ hk_ => trivial)); have n3_ := a_ (blk_kept (B_ BK191.out) hkp (fun hs_ => (fun e_ => (Kd.R_ne HO_7.out BK191.out (by decide)) e_) hs_)); have n4_ := a_ (blk_kept (B_ BK207.out) hkp (fun hs_ => (fun e_ => (Kd.R_ne HO_7.out BK207.out (by decide)) e_) hs_)); have n5_ := a_ (hb); clear HO_4; clear HO_7; clear HO_208002; clear BK191; clear BK207; clear HB; have HO_4 := n0_; have HO_7 := n1_; have HO_208002 := n2_; have BK191 := n3_; have BK207 := n4_; have HB := n5_; clear n0_ n1_ n2_ n3_ n4_ n5_; (try clear hb); (try clear hkp); (try clear hy0)) | ((with_reducible refine gate_callee (f := 24) rfl ?_); refine goesL_ (some 67) rfl rfl Try.func24 (by kernel_rfl) rfl #[.slice Ao62 t223.length co62, .int .i64 1] rfl (by (try simp only [List.map_toArray, List.map_cons, List.map_nil]); first | done | (rw [show t223.length = t208.length from (Kd.R_reads' HO_7.out).1.symm] <;> rfl) | rfl | (simp only [List.length_drop, List.length_take]; rfl)) ?_; (with_reducible refine (laws_heldIntS.calls kj36 _ _ t223 1 t224 _ ?side1 ?side2 A54.out).mono ?_); (case side1 => repeat (first | exact (Kd.R_reads' HO_7.out).2.2 | (with_reducible refine Kd.C_alloc ?_ _) | (with_reducible refine Kd.C_drewN ?_ _) | (with_reducible refine Kd.C_drew ?_))); (case side2 => rw [show t223.length = t208.length from (Kd.R_reads' HO_7.out).1.symm]; exact (Kd.R_reads' HO_7.out).2.1); rintro e w' ⟨rfl, ⟨nd, rfl⟩⟩; refine ⟨_, rfl, ?_⟩; have hnb64 := NB191_207.out; have hnc64 := NB207_191.out; have hcz65_0 : w63.cell? ⟨gb191, 0, none⟩ = some (.int .i64 a0_0) := c_ BK191.out 0; have hcz65_1 : w63.cell? ⟨gb191, 1, none⟩ = some (.int .i64 a0_1) := c_ BK191.out 1; have hcz65_2 : w63.cell? ⟨gb191, 2, none⟩ = some (.slice A0_2 l0_2.length c0_2) := c_ BK191.out 2; have hfz65_0 := blk_frozen BK191.out 0; have hfz65_1 := blk_frozen BK191.out 1; have hfz65_2 := blk_frozen BK191.out 2) | ((with_reducible refine gate_callee (f := 10) rfl ?_); refine goesL_ (some 75) rfl rfl Try.func10 (by kernel_rfl) rfl #[.agg #[.int .i64 a0_0, .int .i64 a0_1, .slice A0_2 l0_2.length c0_2]] rfl (by (try simp only [m1_, m2_, m3_]); first | done | rfl) ?_; (with_reducible refine (laws_toLeague.calls kj36 a0_0 a0_1 _ _ l0_2 t225 t226 t227 _ ?side1 ?side2 A59.out).mono ?_); (case side1 => repeat (first | exact (Kd.C_below HR0_2.out (L_ HB.out GE191.out GE207.out GE207.out)) | (with_reducible refine Kd.C_alloc ?_ _) | (with_reducible refine Kd.C_drewN ?_ _) | (with_reducible refine Kd.C_drew ?_))); (case side2 => exact HC0_2.out); rintro e w66 ⟨v228, rfl, ho0, hb⟩; refine ⟨_, rfl, ?_⟩; have n0_ := a_ (Kd.R_below (R_ HO_4.out) hb); have n1_ := a_ (Kd.R_below (R_ HO_7.out) hb); have n2_ := a_ (Kd.R_elder' (R_ HO_208002.out) (Kd.R_base ho0) hb); have n3_ := a_ (Kd.R_lower (Kd.R_new' ho0 (Kd.R_lt (R_ HO_208002.out))) (below_size (L_ HB.out GE191.out GE207.out GE207.out))); have n4_ := bb_ BK191 hb; have n5_ := bb_ BK207 hb; have n6_ := a_ (below_step (L_ HB.out GE191.out GE207.out GE207.out) hb); clear HO_4; clear HO_7; clear HO_208002; clear BK191; clear BK207; clear HB; have HO_4 := n0_; have HO_7 := n1_; have HO_208002 := n2_; have HO229 := n3_; have BK191 := n4_; have BK207 := n5_; have HB := n6_; clear n0_ n1_ n2_ n3_ n4_ n5_ n6_; (try clear hb); (try clear hb2); (try clear hk); (try clear hi); (try clear ho0); obtain ⟨Ao67, co67, eo67⟩ := Kd.R_slice HO229.out; subst eo67) | ((with_reducible refine gate_callee (f := 20) rfl ?_); refine goesL_ (some 76) rfl rfl Try.func20 (by kernel_rfl) rfl #[.agg #[.int .i64 t225, .int .i64 t226, .slice Ao67 t227.length co67]] rfl (by (try simp only [m1_, m2_, m3_]); first | done | rfl) ?_; (with_reducible refine (impl_LeagueTable.calls kj36 t225 t226 _ _ t227 t230 t233 _ ?side1 ?side2 A60.out).mono ?_); (case side1 => repeat (first | exact (Kd.R_reads' HO229.out).2.2 | (with_reducible refine Kd.C_alloc ?_ _) | (with_reducible refine Kd.C_drewN ?_ _) | (with_reducible refine Kd.C_drew ?_))); (case side2 => exact (Kd.R_reads' HO229.out).2.1); rintro e w68 ⟨v231, rfl, ho0, hb⟩; refine ⟨_, rfl, ?_⟩; have n0_ := a_ (Kd.R_elder' (R_ HO_4.out) (Kd.R_base ho0) hb); have n1_ := a_ (Kd.R_elder' (R_ HO_7.out) (Kd.R_base ho0) hb); have n2_ := a_ (Kd.R_below (R_ HO_208002.out) hb); have n3_ := a_ (Kd.R_below (R_ HO229.out) hb); have n4_ := a_ (Kd.R_lower (Kd.R_new' (Kd.R_new' ho0 (Kd.R_lt (R_ HO_4.out))) (Kd.R_lt (R_ HO_7.out))) (below_size (L_ HB.out GE191.out GE207.out GE207.out))); have n5_ := bb_ BK191 hb; have n6_ := bb_ BK207 hb; have n7_ := a_ (below_step (L_ HB.out GE191.out GE207.out GE207.out) hb); clear HO_4; clear HO_7; clear HO_208002; clear HO229; clear BK191; clear BK207; clear HB; have HO_4 := n0_; have HO_7 := n1_; have HO_208002 := n2_; have HO229 := n3_; have HO232 := n4_; have BK191 := n5_; have BK207 := n6_; have HB := n7_; clear n0_ n1_ n2_ n3_ n4_ n5_ n6_ n7_; (try clear hb); (try clear hb2); (try clear hk); (try clear hi); (try clear ho0)))
           (try simp only [Act.put, List.setIfInBounds_toArray, List.set_cons_zero, List.set_cons_succ])
           go_cut [87] (fun v87 wc => ∃ (kq : Nat) (x87_60 : Bool), v87 = .bool x87_60 ∧ Aside0 (laws_FnExactLeagueTable.j2 kq t223 t222 x87_60 = some r) ∧ Aside0 (kq ≤ kj36) ∧ Aside0 (Kd.R (Kd.int .i64) 3 wc w.heap.size (fun _ => True) (.slice Ao62 t208.length co62) t223) ∧ Aside0 (Kd.R k68 68 wc w.heap.size (fun _ => True) (.slice Ao24 t220.length co24) t220) ∧ Aside0 (wc.heap[gb191]? = some (.cells #[.int .i64 a0_0, .int .i64 a0_1, (.slice A0_2 l0_2.length c0_2)] 24 (0, 0))) ∧ Aside0 (wc.heap[gb207]? = some (.cells #[.int .i64 t202, .int .i64 t203, (.slice Ao24 t220.length co24)] 30 (0, 0))) ∧ Aside0 (Below w.heap.size w wc))
           case first =>
            have H := HC61.out; clear HC61; replace H := Option.bind_eq_some_iff.mp H; obtain ⟨t234, A690, H⟩ := H; replace H : (if t234 = true then (laws_FnExactLeagueTable.j2 kj36 t223 t222 (t233 != t201)) else (laws_FnExactLeagueTable.j2 kj36 t223 t222 true)) = some r := H; have A69 := a_ A690; clear A690
            by_cases c70 : t234 = true
            ·
             subst c70; have H1 : (laws_FnExactLeagueTable.j2 kj36 t223 t222 (t233 != t201)) = some r := by rw [if_pos rfl] at H; exact H
             clear H; have H := H1; clear H1; have H' := a_ H; clear H; obtain ⟨Ao71, co71, eo71⟩ := Kd.R_slice HO232.out; subst eo71; obtain ⟨Ao72, co72, eo72⟩ := Kd.R_slice HO_4.out; subst eo72
             go_wp2_with (first | ((with_reducible refine gate_callee (f := 21) rfl ?_); refine goesL_ (some 81) rfl rfl Try.func21 (by kernel_rfl) rfl #[.slice Ao71 t230.length co71, .slice Ao72 t198.length co72] rfl (by (try simp only [m1_, m2_, m3_]); first | done | rfl) ?_; (with_reducible refine (laws_eqIntS.calls kj36 _ _ t230 _ _ t198 true _ ?side1 ?side2 ?side3 ?side4 A69.out).mono ?_); (case side1 => repeat (first | exact (Kd.R_reads' HO232.out).2.2 | (with_reducible refine Kd.C_alloc ?_ _) | (with_reducible refine Kd.C_drewN ?_ _) | (with_reducible refine Kd.C_drew ?_))); (case side2 => exact (Kd.R_reads' HO232.out).2.1); (case side3 => repeat (first | exact (Kd.R_reads' HO_4.out).2.2 | (with_reducible refine Kd.C_alloc ?_ _) | (with_reducible refine Kd.C_drewN ?_ _) | (with_reducible refine Kd.C_drew ?_))); (case side4 => exact (Kd.R_reads' HO_4.out).2.1); rintro e w' ⟨rfl, ⟨nd, rfl⟩⟩; refine ⟨_, rfl, ?_⟩))
             go_meet
             case rel => exact ⟨_, ((t233 != t201)), (by first | rfl | (simp; done) | (simp [*]; done)), H', ⟨by have := HJ10.out; have := HJ36.out; first | omega | exact Nat.le_refl _⟩, ⟨by (try simp only [hl208002_36]); (with_reducible repeat (first | apply Kd.R_alloc | apply Kd.R_drewN | apply Kd.R_drew)); exact Kd.R_mono HO_7.out (fun _ hk => trivial)⟩, ⟨by (try simp only [hl208002_36]); (with_reducible repeat (first | apply Kd.R_alloc | apply Kd.R_drewN | apply Kd.R_drew)); exact Kd.R_mono HO_208002.out (fun _ hk => trivial)⟩, ⟨by (try simp only [hl208002_36]); exact B_ BK191.out⟩, ⟨by (try simp only [hl208002_36]); exact B_ BK207.out⟩, ⟨L_ HB.out GE191.out GE207.out GE207.out⟩⟩
            ·
             replace c70 := Bool.eq_false_iff.mpr c70; subst c70; have H1 : (laws_FnExactLeagueTable.j2 kj36 t223 t222 true) = some r := by rw [if_neg (show ¬ (false = true) by decide)] at H; exact H
             clear H; have H := H1; clear H1; have H' := a_ H; clear H; obtain ⟨Ao73, co73, eo73⟩ := Kd.R_slice HO232.out; subst eo73; obtain ⟨Ao74, co74, eo74⟩ := Kd.R_slice HO_4.out; subst eo74
             go_wp2_with (first | ((with_reducible refine gate_callee (f := 21) rfl ?_); refine goesL_ (some 81) rfl rfl Try.func21 (by kernel_rfl) rfl #[.slice Ao73 t230.length co73, .slice Ao74 t198.length co74] rfl (by (try simp only [m1_, m2_, m3_]); first | done | rfl) ?_; (with_reducible refine (laws_eqIntS.calls kj36 _ _ t230 _ _ t198 false _ ?side1 ?side2 ?side3 ?side4 A69.out).mono ?_); (case side1 => repeat (first | exact (Kd.R_reads' HO232.out).2.2 | (with_reducible refine Kd.C_alloc ?_ _) | (with_reducible refine Kd.C_drewN ?_ _) | (with_reducible refine Kd.C_drew ?_))); (case side2 => exact (Kd.R_reads' HO232.out).2.1); (case side3 => repeat (first | exact (Kd.R_reads' HO_4.out).2.2 | (with_reducible refine Kd.C_alloc ?_ _) | (with_reducible refine Kd.C_drewN ?_ _) | (with_reducible refine Kd.C_drew ?_))); (case side4 => exact (Kd.R_reads' HO_4.out).2.1); rintro e w' ⟨rfl, ⟨nd, rfl⟩⟩; refine ⟨_, rfl, ?_⟩))
             go_meet
             case rel => exact ⟨_, (true), (by first | rfl | (simp; done) | (simp [*]; done)), H', ⟨by have := HJ10.out; have := HJ36.out; first | omega | exact Nat.le_refl _⟩, ⟨by (try simp only [hl208002_36]); (with_reducible repeat (first | apply Kd.R_alloc | apply Kd.R_drewN | apply Kd.R_drew)); exact Kd.R_mono HO_7.out (fun _ hk => trivial)⟩, ⟨by (try simp only [hl208002_36]); (with_reducible repeat (first | apply Kd.R_alloc | apply Kd.R_drewN | apply Kd.R_drew)); exact Kd.R_mono HO_208002.out (fun _ hk => trivial)⟩, ⟨by (try simp only [hl208002_36]); exact B_ BK191.out⟩, ⟨by (try simp only [hl208002_36]); exact B_ BK207.out⟩, ⟨L_ HB.out GE191.out GE207.out GE207.out⟩⟩
           case rest =>
            clear HC61
            try clear c1
            try clear c2
            try clear p2
            try clear c3
            try clear c3b0
            try clear c4
            try clear c5
            try clear c6
            try clear c7
            try clear c8
            try clear c10
            try clear c12
            try clear c19
            try clear c20
            try clear c21
            try clear c22
            try clear c23
            try clear c24
            try clear c27
            try clear c32
            try clear c35
            try clear c42
            try clear c45
            try clear c45b0
            try clear c47
            try clear c52
            try clear c55
            try clear c55b0
            try clear c58
            try clear c58b0
            try clear c58b1
            try clear c64
            try clear c70
            try clear hcz13_0 hcz13_1 hcz13_2
            try clear hcz15_0 hcz15_1 hcz15_2
            try clear hcz19_0 hcz19_1 hcz19_2
            try clear hcz23_0 hcz23_1 hcz23_2
            try clear hcz43_0 hcz43_1 hcz43_2
            try clear hcz5_0 hcz5_1 hcz5_2
            try clear hcz65_0 hcz65_1 hcz65_2
            try clear hfz13_0 hfz13_1 hfz13_2
            try clear hfz15_0 hfz15_1 hfz15_2
            try clear hfz19_0 hfz19_1 hfz19_2
            try clear hfz23_0 hfz23_1 hfz23_2
            try clear hfz43_0 hfz43_1 hfz43_2
            try clear hfz5_0 hfz5_1 hfz5_2
            try clear hfz65_0 hfz65_1 hfz65_2
            try clear p2
            obtain ⟨kq, x87_60, rfl, HA, HJ60, HO_7, HO_208002, BK191, BK207, HB⟩ := hcut; have hl7_60 := (Kd.R_reads' HO_7.out).1; rw [hl7_60] at HO_7
            (try simp only [hl7_60])
            (try simp only [hl7_60] at BK191)
            (try simp only [hl7_60] at BK207)
            (try simp only [hl7_60] at HO_208002)
            cases kq with
            | zero => exact absurd HA.out (by simp [laws_FnExactLeagueTable.j2])
            | succ kj60 =>
             have H := HA.out; clear HA; simp only [laws_FnExactLeagueTable.j2] at H
             by_cases c75 : x87_60 = true
             ·
              subst c75; have H1 : (some false) = some r := by rw [if_pos rfl] at H; exact H
              clear H; have H := H1; clear H1; obtain rfl := Option.some.inj H
              go_wp2
              go_ret
              exact ⟨by first | rfl | (simp [errW_none, errW_some] <;> rfl) | (simp [*, errW_none, errW_some] <;> rfl), by repeat (first | (with_reducible first | exact HB.out | apply below_alloc | apply pw_below_drewN | apply below_drew1 | refine below_set ?_ GE191.out | refine below_set ?_ GE207.out) | exact HB.out)⟩
             ·
              replace c75 := Bool.eq_false_iff.mpr c75; subst c75; have H1 : ((laws_heldIntS.f kj60 t223 1).bind fun t235 => (if t235 < 0 then (some false) else (if t235 = t222 then (some true) else (some false)))) = some r := by rw [if_neg (show ¬ (false = true) by decide)] at H; exact H
              clear H; have H := H1; clear H1; replace H := Option.bind_eq_some_iff.mp H; obtain ⟨t235, A760, H⟩ := H; replace H : (if t235 < 0 then (some false) else (if t235 = t222 then (some true) else (some false))) = some r := H; have A76 := a_ A760; clear A760
              by_cases c77 : t235 < 0
              ·
               rw [if_pos c77] at H; have c77b0 : decide (t235 < 0) = true := decide_eq_true c77; clear c77; obtain rfl := Option.some.inj H
               go_wp2_with (first | ((with_reducible refine gate_callee (f := 24) rfl ?_); refine goesL_ (some 90) rfl rfl Try.func24 (by kernel_rfl) rfl #[.slice Ao62 t223.length co62, .int .i64 1] rfl (by (try simp only [m1_, m2_, m3_]); first | done | rfl) ?_; (with_reducible refine (laws_heldIntS.calls kj60 _ _ t223 1 t235 _ ?side1 ?side2 A76.out).mono ?_); (case side1 => repeat (first | exact (Kd.R_reads' HO_7.out).2.2 | (with_reducible refine Kd.C_alloc ?_ _) | (with_reducible refine Kd.C_drewN ?_ _) | (with_reducible refine Kd.C_drew ?_))); (case side2 => exact (Kd.R_reads' HO_7.out).2.1); rintro e w' ⟨rfl, ⟨nd, rfl⟩⟩; refine ⟨_, rfl, ?_⟩))
               go_ret
               exact ⟨by first | rfl | (simp [errW_none, errW_some] <;> rfl) | (simp [*, errW_none, errW_some] <;> rfl), by repeat (first | (with_reducible first | exact HB.out | apply below_alloc | apply pw_below_drewN | apply below_drew1 | refine below_set ?_ GE191.out | refine below_set ?_ GE207.out) | exact HB.out)⟩
              ·
               rw [if_neg c77] at H; have c77b0 : decide (t235 < 0) = false := decide_eq_false c77; clear c77
               by_cases c78 : t235 = t222
               ·
                rw [if_pos c78] at H; have c78b0 : (t235 == t222) = true := beq_iff_eq.mpr c78; have c78b1 : (t235 != t222) = false := bne_eq_false_iff_eq.mpr c78; clear c78; obtain rfl := Option.some.inj H
                go_wp2_with (first | ((with_reducible refine gate_callee (f := 24) rfl ?_); refine goesL_ (some 90) rfl rfl Try.func24 (by kernel_rfl) rfl #[.slice Ao62 t223.length co62, .int .i64 1] rfl (by (try simp only [m1_, m2_, m3_]); first | done | rfl) ?_; (with_reducible refine (laws_heldIntS.calls kj60 _ _ t223 1 t235 _ ?side1 ?side2 A76.out).mono ?_); (case side1 => repeat (first | exact (Kd.R_reads' HO_7.out).2.2 | (with_reducible refine Kd.C_alloc ?_ _) | (with_reducible refine Kd.C_drewN ?_ _) | (with_reducible refine Kd.C_drew ?_))); (case side2 => exact (Kd.R_reads' HO_7.out).2.1); rintro e w' ⟨rfl, ⟨nd, rfl⟩⟩; refine ⟨_, rfl, ?_⟩))
                go_ret
                exact ⟨by first | rfl | (simp [errW_none, errW_some] <;> rfl) | (simp [*, errW_none, errW_some] <;> rfl), by repeat (first | (with_reducible first | exact HB.out | apply below_alloc | apply pw_below_drewN | apply below_drew1 | refine below_set ?_ GE191.out | refine below_set ?_ GE207.out) | exact HB.out)⟩
               ·
                rw [if_neg c78] at H; have c78b0 : (t235 == t222) = false := beq_eq_false_iff_ne.mpr c78; have c78b1 : (t235 != t222) = true := bne_iff_ne.mpr c78; obtain rfl := Option.some.inj H
                go_wp2_with (first | ((with_reducible refine gate_callee (f := 24) rfl ?_); refine goesL_ (some 90) rfl rfl Try.func24 (by kernel_rfl) rfl #[.slice Ao62 t223.length co62, .int .i64 1] rfl (by (try simp only [m1_, m2_, m3_]); first | done | rfl) ?_; (with_reducible refine (laws_heldIntS.calls kj60 _ _ t223 1 t235 _ ?side1 ?side2 A76.out).mono ?_); (case side1 => repeat (first | exact (Kd.R_reads' HO_7.out).2.2 | (with_reducible refine Kd.C_alloc ?_ _) | (with_reducible refine Kd.C_drewN ?_ _) | (with_reducible refine Kd.C_drew ?_))); (case side2 => exact (Kd.R_reads' HO_7.out).2.1); rintro e w' ⟨rfl, ⟨nd, rfl⟩⟩; refine ⟨_, rfl, ?_⟩))
                go_ret
                exact ⟨by first | rfl | (simp [errW_none, errW_some] <;> rfl) | (simp [*, errW_none, errW_some] <;> rfl), by repeat (first | (with_reducible first | exact HB.out | apply below_alloc | apply pw_below_drewN | apply below_drew1 | refine below_set ?_ GE191.out | refine below_set ?_ GE207.out) | exact HB.out)⟩
          ·
           rw [if_neg c58] at H; have c58b0 : (t224 == t222) = false := beq_eq_false_iff_ne.mpr c58; have c58b1 : (t224 != t222) = true := bne_iff_ne.mpr c58; obtain rfl := Option.some.inj H; obtain ⟨Ao79, co79, eo79⟩ := Kd.R_slice HO_7.out; subst eo79
           go_wp2_with (first | ((with_reducible refine gate_callee (f := 23) rfl ?_); refine goesL_ (some 64) rfl rfl Try.func23 (by kernel_rfl) rfl #[.slice Ao79 t208.length co79, .int .i64 1] rfl (by (try simp only [m1_, m2_, m3_]); first | done | rfl) ?_; (with_reducible refine (laws_markIntS.calls kj36 (fun k_ => some k_ = (.slice Ao79 t208.length co79 : Value).ownBlock) (.slice Ao79 t208.length co79) t208 1 t222 t223 w _ ?side1 ?side2 A53.out).mono ?_); (case side1 => repeat (first | (with_reducible first | exact HB.out | apply below_alloc | apply pw_below_drewN | apply below_drew1 | refine below_set ?_ GE191.out | refine below_set ?_ GE207.out) | exact HB.out)); (case side2 => exact Kd.R_tight rfl HO_7.out); rintro e w80 ⟨rfl, hy0, hb, hkp⟩; refine ⟨_, rfl, ?_⟩; have n0_ := a_ (Kd.R_mono (ok' := fun k_ => some k_ ≠ (.slice Ao79 t208.length co79 : Value).ownBlock) (Kd.R_keptB (HO_4.out) hkp (fun k_ hk_ hs_ => (hk_) hs_)) (fun k_ hk_ => hk_.1)); have n1_ := a_ (Kd.R_reok rfl hy0 (fun k_ e_ => HO_7.out.1 k_ e_)); have n2_ := a_ (Kd.R_mono (ok' := fun k_ => True) (Kd.R_keptB ((Kd.R_apart' HO_208002.out (Kd.R_typed HO_7.out) (by decide))) hkp (fun k_ hk_ hs_ => (hk_.2) hs_)) (fun k_ hk_ => trivial)); have n3_ := a_ (blk_kept (B_ BK191.out) hkp (fun hs_ => (fun e_ => (Kd.R_ne HO_7.out BK191.out (by decide)) e_) hs_)); have n4_ := a_ (blk_kept (B_ BK207.out) hkp (fun hs_ => (fun e_ => (Kd.R_ne HO_7.out BK207.out (by decide)) e_) hs_)); have n5_ := a_ (hb); clear HO_4; clear HO_7; clear HO_208002; clear BK191; clear BK207; clear HB; have HO_4 := n0_; have HO_7 := n1_; have HO_208002 := n2_; have BK191 := n3_; have BK207 := n4_; have HB := n5_; clear n0_ n1_ n2_ n3_ n4_ n5_; (try clear hb); (try clear hkp); (try clear hy0)) | ((with_reducible refine gate_callee (f := 24) rfl ?_); refine goesL_ (some 67) rfl rfl Try.func24 (by kernel_rfl) rfl #[.slice Ao79 t223.length co79, .int .i64 1] rfl (by (try simp only [List.map_toArray, List.map_cons, List.map_nil]); first | done | (rw [show t223.length = t208.length from (Kd.R_reads' HO_7.out).1.symm] <;> rfl) | rfl | (simp only [List.length_drop, List.length_take]; rfl)) ?_; (with_reducible refine (laws_heldIntS.calls kj36 _ _ t223 1 t224 _ ?side1 ?side2 A54.out).mono ?_); (case side1 => repeat (first | exact (Kd.R_reads' HO_7.out).2.2 | (with_reducible refine Kd.C_alloc ?_ _) | (with_reducible refine Kd.C_drewN ?_ _) | (with_reducible refine Kd.C_drew ?_))); (case side2 => rw [show t223.length = t208.length from (Kd.R_reads' HO_7.out).1.symm]; exact (Kd.R_reads' HO_7.out).2.1); rintro e w' ⟨rfl, ⟨nd, rfl⟩⟩; refine ⟨_, rfl, ?_⟩))
           go_ret
           exact ⟨by first | rfl | (simp [errW_none, errW_some] <;> rfl) | (simp [*, errW_none, errW_some] <;> rfl), by repeat (first | (with_reducible first | exact HB.out | apply below_alloc | apply pw_below_drewN | apply below_drew1 | refine below_set ?_ GE191.out | refine below_set ?_ GE207.out) | exact HB.out)⟩
     ·
      replace c35 := Bool.eq_false_iff.mpr c35; subst c35; have H1 : (some false) = some r := by rw [if_neg (show ¬ (false = true) by decide)] at H; exact H
      clear H; have H := H1; clear H1; obtain rfl := Option.some.inj H
      try go_wp2
      have n0_ := a_ (Kd.R_drew HO_4.out); have n1_ := a_ (Kd.R_drew HO_7.out); have n2_ := a_ (Kd.R_drew HO_208002.out); have n3_ := a_ (blk_drew BK191.out); have n4_ := a_ (blk_drew BK207.out); have n5_ := a_ (below_drew1 HB.out); clear HO_4; clear HO_7; clear HO_208002; clear BK191; clear BK207; clear HB; have HO_4 := n0_; have HO_7 := n1_; have HO_208002 := n2_; have BK191 := n3_; have BK207 := n4_; have HB := n5_; clear n0_ n1_ n2_ n3_ n4_ n5_
      refine start_ (n := 5) (S := fun w' => w'.cell? ⟨gb207, 0, none⟩ = some (.int .i64 t202) ∧ w'.cell? ⟨gb207, 1, none⟩ = some (.int .i64 t203) ∧ w'.cell? ⟨gb207, 2, none⟩ = some (.slice Ao24 t204.length co24) ∧ w'.cell? ⟨gb191, 0, none⟩ = some (.int .i64 a0_0) ∧ w'.cell? ⟨gb191, 1, none⟩ = some (.int .i64 a0_1) ∧ w'.cell? ⟨gb191, 2, none⟩ = some (.slice A0_2 l0_2.length c0_2)) (ds := []) #[false, false, false, false, false] (by kernel_rfl) rfl rfl ⟨c_ BK207.out 0, c_ BK207.out 1, c_ BK207.out 2, c_ BK191.out 0, c_ BK191.out 1, c_ BK191.out 2⟩ (fun hHeld => ?_)
      generalize wc.drew = w81 at HO_4 HO_7 HO_208002 BK191 BK207 HB hHeld ⊢
      refine take_ (i := 0) (N := some 41) (v := ?_) (a' := ?_) #[true, false, false, false, false] rfl rfl (by kernel_rfl) (fun _ _ _ h => h) (Or.inl ⟨by rfl, ?_⟩) hHeld ?_ ?_
      rotate_left
      ·
       rintro w' ⟨s0, s1, s2, s3, s4, s5⟩
       go_simp
       with_reducible rfl
      rotate_left
      ·
       simp only [Act.put, List.setIfInBounds_toArray, List.set_cons_zero, List.set_cons_succ, i64_w, i32_w]
       rfl
      refine take_ (i := 1) (N := some 42) (v := ?_) (a' := ?_) #[true, true, false, false, false] rfl rfl (by kernel_rfl) (fun _ _ _ h => h) (Or.inl ⟨by rfl, ?_⟩) hHeld ?_ ?_
      rotate_left
      ·
       rintro w' ⟨s0, s1, s2, s3, s4, s5⟩
       go_simp
       with_reducible rfl
      rotate_left
      ·
       simp only [Act.put, List.setIfInBounds_toArray, List.set_cons_zero, List.set_cons_succ, i64_w, i32_w]
       rfl
      refine one_ (i := 2) (N := some 43) #[true, true, true, false, false] rfl rfl (by kernel_rfl) (by decide) (fun K hK => ?_)
      refine goes_ Try.func10 (by kernel_rfl) rfl #[.agg #[.int .i64 a0_0, .int .i64 a0_1, .slice A0_2 l0_2.length c0_2]] (by rfl) rfl rfl (by (try simp only [m1_, m2_, m3_]); first | done | rfl) ?_
      with_reducible refine (laws_toLeague.calls kj10 a0_0 a0_1 _ _ l0_2 t213 t214 t215 _ ?side1 ?side2 A33.out).mono ?_
      (case side1 => repeat (first | exact (Kd.C_below HR0_2.out HB.out) | (with_reducible refine Kd.C_alloc ?_ _) | (with_reducible refine Kd.C_drewN ?_ _) | (with_reducible refine Kd.C_drew ?_)))
      (case side2 => exact HC0_2.out)
      rintro e w82 ⟨v216, rfl, ho0, hb⟩
      refine ⟨_, rfl, ?_⟩
      have n0_ := a_ (Kd.R_below (R_ HO_4.out) hb); have n1_ := a_ (Kd.R_below (R_ HO_7.out) hb); have n2_ := a_ (Kd.R_elder' (R_ HO_208002.out) (Kd.R_base ho0) hb); have n3_ := a_ (Kd.R_lower (Kd.R_new' ho0 (Kd.R_lt (R_ HO_208002.out))) (below_size (L_ HB.out GE191.out GE207.out GE207.out))); have n4_ := bb_ BK191 hb; have n5_ := bb_ BK207 hb; have n6_ := a_ (below_step (L_ HB.out GE191.out GE207.out GE207.out) hb); clear HO_4; clear HO_7; clear HO_208002; clear BK191; clear BK207; clear HB; have HO_4 := n0_; have HO_7 := n1_; have HO_208002 := n2_; have HO217 := n3_; have BK191 := n4_; have BK207 := n5_; have HB := n6_; clear n0_ n1_ n2_ n3_ n4_ n5_ n6_
      (try clear hb)
      (try clear hb2)
      (try clear hk)
      (try clear hi)
      (try clear ho0)
      obtain ⟨Ao83, co83, eo83⟩ := Kd.R_slice HO217.out
      (first | subst eo83 | (injection eo83 with f1_ f2_ f3_; have f4_ := f1_.symm; have f5_ := f3_.symm; clear f1_ f2_ f3_; subst f4_; subst f5_))
      refine hK.out _ _ ⟨c_ BK207.out 0, c_ BK207.out 1, c_ BK207.out 2, c_ BK191.out 0, c_ BK191.out 1, c_ BK191.out 2⟩ (fun hHeld => ?_)
      clear hK K
      refine norm_ (a' := ?_) ?_ ?_
      rotate_left
      ·
       show Act.put _ (some 43) _ = _
       simp only [Act.put, List.setIfInBounds_toArray, List.set_cons_zero, List.set_cons_succ, i64_w, i32_w]
       rfl
      refine one_ (i := 3) (N := some 44) #[true, true, true, true, false] rfl rfl (by kernel_rfl) (by decide) (fun K hK => ?_)
      refine goes_ Try.func12 (by kernel_rfl) rfl #[.agg #[.int .i64 t202, .int .i64 t203, .slice Ao24 t204.length co24], .agg #[.int .i64 t213, .int .i64 t214, .slice Ao83 t215.length co83]] (by rfl) rfl rfl (by (try simp only [m1_, m2_, m3_]); first | done | rfl) ?_
      with_reducible refine (laws_eqLeague.calls kj10 t202 t203 _ _ t204 t213 t214 _ _ t215 false _ ?side1 ?side2 ?side3 ?side4 A34.out).mono ?_
      (case side1 => repeat (first | exact (Kd.R_reads' HO_208002.out).2.2 | (with_reducible refine Kd.C_alloc ?_ _) | (with_reducible refine Kd.C_drewN ?_ _) | (with_reducible refine Kd.C_drew ?_)))
      (case side2 => exact (Kd.R_reads' HO_208002.out).2.1)
      (case side3 => repeat (first | exact (Kd.R_reads' HO217.out).2.2 | (with_reducible refine Kd.C_alloc ?_ _) | (with_reducible refine Kd.C_drewN ?_ _) | (with_reducible refine Kd.C_drew ?_)))
      (case side4 => exact (Kd.R_reads' HO217.out).2.1)
      rintro e w84 ⟨rfl, hb⟩
      refine ⟨_, rfl, ?_⟩
      have n0_ := a_ (Kd.R_below (R_ HO_4.out) hb); have n1_ := a_ (Kd.R_below (R_ HO_7.out) hb); have n2_ := a_ (Kd.R_below (R_ HO_208002.out) hb); have n3_ := a_ (Kd.R_below (R_ HO217.out) hb); have n4_ := bb_ BK191 hb; have n5_ := bb_ BK207 hb; have n6_ := a_ (below_step (L_ HB.out GE191.out GE207.out GE207.out) hb); clear HO_4; clear HO_7; clear HO_208002; clear HO217; clear BK191; clear BK207; clear HB; have HO_4 := n0_; have HO_7 := n1_; have HO_208002 := n2_; have HO217 := n3_; have BK191 := n4_; have BK207 := n5_; have HB := n6_; clear n0_ n1_ n2_ n3_ n4_ n5_ n6_
      (try clear hb)
      (try clear hb2)
      (try clear hk)
      (try clear hi)
      refine hK.out _ _ ⟨c_ BK207.out 0, c_ BK207.out 1, c_ BK207.out 2, c_ BK191.out 0, c_ BK191.out 1, c_ BK191.out 2⟩ (fun hHeld => ?_)
      clear hK K
      refine norm_ (a' := ?_) ?_ ?_
      rotate_left
      ·
       show Act.put _ (some 44) _ = _
       simp only [Act.put, List.setIfInBounds_toArray, List.set_cons_zero, List.set_cons_succ, i64_w, i32_w]
       rfl
      refine pure_ (i := 4) (N := some 45) (v := ?_) (a' := ?_) #[true, true, true, true, true] rfl rfl (by kernel_rfl) (fun _ _ _ h => h) (Or.inl ⟨by rfl, ?_⟩) ?_ ?_
      rotate_left
      ·
       intro w'
       go_simp
       with_reducible rfl
      rotate_left
      ·
       simp only [Act.put, List.setIfInBounds_toArray, List.set_cons_zero, List.set_cons_succ, i64_w, i32_w]
       rfl
      refine done_ (by kernel_rfl) ?_
      try go_wp2
      go_ret
      exact ⟨by first | rfl | (simp [errW_none, errW_some] <;> rfl) | (simp [*, errW_none, errW_some] <;> rfl), by repeat (first | (with_reducible first | exact HB.out | apply below_alloc | apply pw_below_drewN | apply below_drew1 | refine below_set ?_ GE191.out | refine below_set ?_ GE207.out) | exact HB.out)⟩

end Go.Proofs.Ytmijfimjlenmpaa.QFnExactMostPoints
