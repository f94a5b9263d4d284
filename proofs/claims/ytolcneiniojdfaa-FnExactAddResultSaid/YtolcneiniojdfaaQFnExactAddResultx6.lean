-- Written by a program of this session (wip/tools/gprint.sh) out of the translation, with some contracts given by hand.
import Derived.Test.YtolcneiniojdfaaQFnExactAddResultx0
import Derived.Test.YtolcneiniojdfaaQFnExactAddResultx1
import Derived.Test.YtolcneiniojdfaaQFnExactAddResultx3
import Derived.Test.YtolcneiniojdfaaQFnExactAddResultx4
import Derived.Test.YtolcneiniojdfaaQFnExactAddResultx5
import Derived.Test.YtolcneiniojdfaaGShort
namespace Go.Proofs.Ytolcneiniojdfaa.QFnExactAddResult
open Go.RowKit Go.Proofs.YtolcneiniojdfaaW.PrintWords Go.Proofs.YtolcneiniojdfaaW.PrintLast Go.Proofs.YtolcneiniojdfaaW.PrintMore Go.Proofs.Ytolcneiniojdfaa.Sh
attribute [local go_sem] max2_int min2_int max_two min_two max_three min_three max_four min_four   -- for this text's walks alone
set_option linter.unusedVariables false
set_option linter.unusedSimpArgs false

/-! ### laws_FnExactAddResult: function 8 -/
mutual
def laws_FnExactAddResult.j0 : Nat → Bool → Bool → Bool → Int → Int → List (S48) → Int → Int → Int → Int → Int → Int → List (S51) → Int → Int → List (S51) → Int → Int → List (S51) → Option (Bool)
 | 0, _, _, _, _, _, _, _, _, _, _, _, _, _, _, _, _, _, _, _ => none
 | k + 1, x7, x10, x46, x195000, x195001, x195002, x196000, x196001, x196002, x196003, x213000, x213001, x213002, x219000, x219001, x219002, x230000, x230001, x230002 => if x46 = true then (some false) else ((laws_toLeague.f k x195000 x195001 x195002).bind fun bt231 => ((laws_eqLeague.f k x219000 x219001 x219002 bt231.1 bt231.2.1 bt231.2.2).bind fun t236 => (if t236 = true then ((laws_markLeague.f k x219000 x219001 x219002 1).bind fun bt237 => (if bt237.1 < 0 then (laws_FnExactAddResult.j1 k x7 true x195000 x195001 x195002 x196000 x196001 x196002 x196003 x213000 x213001 x213002 x230000 x230001 x230002) else ((laws_eqLeague.f k x230000 x230001 x230002 x213000 x213001 x213002).bind fun t239 => (if t239 = true then (laws_FnExactAddResult.j1 k x7 (x10 != x7) x195000 x195001 x195002 x196000 x196001 x196002 x196003 x213000 x213001 x213002 x230000 x230001 x230002) else (laws_FnExactAddResult.j1 k x7 true x195000 x195001 x195002 x196000 x196001 x196002 x196003 x213000 x213001 x213002 x230000 x230001 x230002))))) else (some false))))
def laws_FnExactAddResult.j1 : Nat → Bool → Bool → Int → Int → List (S48) → Int → Int → Int → Int → Int → Int → List (S51) → Int → Int → List (S51) → Option (Bool)
 | 0, _, _, _, _, _, _, _, _, _, _, _, _, _, _, _ => none
 | k + 1, x7, x67, x195000, x195001, x195002, x196000, x196001, x196002, x196003, x213000, x213001, x213002, x230000, x230001, x230002 => if x67 = true then (some false) else ((laws_markLeague.f k x230000 x230001 x230002 1).bind fun bt240 => ((laws_heldLeague.f k x230000 x230001 bt240.2 1).bind fun t242 => (if t242 < 0 then (some false) else (if t242 = bt240.1 then ((laws_toLeague.f k x195000 x195001 x195002).bind fun bt243 => ((laws_toResult.f x196000 x196001 x196002 x196003).bind fun bt248 => ((impl_AddResult.f k bt243.1 bt243.2.1 bt243.2.2 bt248.1 bt248.2.1 bt248.2.2.1 bt248.2.2.2).bind fun bt252 => ((laws_eqLeague.f k bt252.1 bt252.2.1 bt252.2.2.1 x213000 x213001 x213002).bind fun t259 => (if t259 = true then (laws_FnExactAddResult.j2 k bt240.1 (bt252.2.2.2 != x7) x230000 x230001 bt240.2) else (laws_FnExactAddResult.j2 k bt240.1 true x230000 x230001 bt240.2)))))) else (some false)))))
def laws_FnExactAddResult.j2 : Nat → Int → Bool → Int → Int → List (S51) → Option (Bool)
 | 0, _, _, _, _, _ => none
 | k + 1, x12, x95, x230000, x230001, x230002 => if x95 = true then (some false) else ((laws_heldLeague.f k x230000 x230001 x230002 1).bind fun t260 => (if t260 < 0 then (some false) else (if t260 = x12 then (some true) else (some false))))
end
def laws_FnExactAddResult.f (k : Nat) (a0_0 : Int) (a0_1 : Int) (l0_2 : List (S48)) (a1_0 : Int) (a1_1 : Int) (a1_2 : Int) (a1_3 : Int) : Option (Bool) := (laws_szLeague.f a0_0 a0_1 l0_2 1048576).bind fun t196 => (if t196 < 0 then (some true) else ((laws_toLeague.f k a0_0 a0_1 l0_2).bind fun bt197 => ((laws_toResult.f a1_0 a1_1 a1_2 a1_3).bind fun bt202 => ((spec_AddResult.f k bt197.1 bt197.2.1 bt197.2.2 bt202.1 bt202.2.1 bt202.2.2.1 bt202.2.2.2).bind fun bt206 => ((laws_toLeague.f k a0_0 a0_1 l0_2).bind fun bt213 => ((laws_toResult.f a1_0 a1_1 a1_2 a1_3).bind fun bt219 => ((impl_AddResult.f k bt213.1 bt213.2.1 bt213.2.2 bt219.1 bt219.2.1 bt219.2.2.1 bt219.2.2.2).bind fun bt223 => ((laws_eqLeague.f k bt223.1 bt223.2.1 bt223.2.2.1 bt206.1 bt206.2.1 bt206.2.2.1).bind fun t230 => (if t230 = true then (laws_FnExactAddResult.j0 k bt206.2.2.2 bt223.2.2.2 (bt223.2.2.2 != bt206.2.2.2) a0_0 a0_1 l0_2 a1_0 a1_1 a1_2 a1_3 bt206.1 bt206.2.1 bt206.2.2.1 bt213.1 bt213.2.1 bt213.2.2 bt223.1 bt223.2.1 bt223.2.2.1) else (laws_FnExactAddResult.j0 k bt206.2.2.2 bt223.2.2.2 true a0_0 a0_1 l0_2 a1_0 a1_1 a1_2 a1_3 bt206.1 bt206.2.1 bt206.2.2.1 bt213.1 bt213.2.1 bt213.2.2 bt223.1 bt223.2.1 bt223.2.2.1))))))))))
theorem laws_FnExactAddResult.mono_l : ∀ k, (∀ y0 y1 y2 y3 y4 y5 y6 y7 y8 y9 y10 y11 y12 y13 y14 y15 y16 y17 y18, LeO (laws_FnExactAddResult.j0 k y0 y1 y2 y3 y4 y5 y6 y7 y8 y9 y10 y11 y12 y13 y14 y15 y16 y17 y18) (laws_FnExactAddResult.j0 (k + 1) y0 y1 y2 y3 y4 y5 y6 y7 y8 y9 y10 y11 y12 y13 y14 y15 y16 y17 y18)) ∧ (∀ y0 y1 y2 y3 y4 y5 y6 y7 y8 y9 y10 y11 y12 y13 y14, LeO (laws_FnExactAddResult.j1 k y0 y1 y2 y3 y4 y5 y6 y7 y8 y9 y10 y11 y12 y13 y14) (laws_FnExactAddResult.j1 (k + 1) y0 y1 y2 y3 y4 y5 y6 y7 y8 y9 y10 y11 y12 y13 y14)) ∧ (∀ y0 y1 y2 y3 y4, LeO (laws_FnExactAddResult.j2 k y0 y1 y2 y3 y4) (laws_FnExactAddResult.j2 (k + 1) y0 y1 y2 y3 y4))
 | 0 => ⟨fun _ _ _ _ _ _ _ _ _ _ _ _ _ _ _ _ _ _ _ r h => by simp [laws_FnExactAddResult.j0] at h, fun _ _ _ _ _ _ _ _ _ _ _ _ _ _ _ r h => by simp [laws_FnExactAddResult.j1] at h, fun _ _ _ _ _ r h => by simp [laws_FnExactAddResult.j2] at h⟩
 | k + 1 => by
  obtain ⟨ih0, ih1, ih2⟩ := laws_FnExactAddResult.mono_l k
  refine ⟨?_, ?_, ?_⟩
  ·
   intro y0 y1 y2 y3 y4 y5 y6 y7 y8 y9 y10 y11 y12 y13 y14 y15 y16 y17 y18
   unfold laws_FnExactAddResult.j0
   repeat' first
   | (with_reducible exact ih0 _ _ _ _ _ _ _ _ _ _ _ _ _ _ _ _ _ _ _)
   | (with_reducible exact ih1 _ _ _ _ _ _ _ _ _ _ _ _ _ _ _)
   | (with_reducible exact ih2 _ _ _ _ _)
   | (with_reducible exact impl_AddResult.mono _ _ _ _ _ _ _ _)
   | (with_reducible exact laws_eqLeague.mono _ _ _ _ _ _ _)
   | (with_reducible exact laws_heldLeague.mono _ _ _ _ _)
   | (with_reducible exact laws_markLeague.mono _ _ _ _ _)
   | (with_reducible exact laws_toLeague.mono _ _ _ _)
   | (with_reducible exact spec_AddResult.mono _ _ _ _ _ _ _ _)
   | (with_reducible exact LeO.refl _)
   | (with_reducible exact LeO.none _)
   | (with_reducible refine LeO.ite ?_ ?_)
   | (with_reducible refine LeO.bind ?_ (fun _ => ?_))
   | exact ih0 _ _ _ _ _ _ _ _ _ _ _ _ _ _ _ _ _ _ _
   | exact ih1 _ _ _ _ _ _ _ _ _ _ _ _ _ _ _
   | exact ih2 _ _ _ _ _
   | exact impl_AddResult.mono _ _ _ _ _ _ _ _
   | exact laws_eqLeague.mono _ _ _ _ _ _ _
   | exact laws_heldLeague.mono _ _ _ _ _
   | exact laws_markLeague.mono _ _ _ _ _
   | exact laws_toLeague.mono _ _ _ _
   | exact spec_AddResult.mono _ _ _ _ _ _ _ _
   | exact LeO.none _
   | refine LeO.ite ?_ ?_
   | refine LeO.bind ?_ (fun _ => ?_)
  ·
   intro y0 y1 y2 y3 y4 y5 y6 y7 y8 y9 y10 y11 y12 y13 y14
   unfold laws_FnExactAddResult.j1
   repeat' first
   | (with_reducible exact ih0 _ _ _ _ _ _ _ _ _ _ _ _ _ _ _ _ _ _ _)
   | (with_reducible exact ih1 _ _ _ _ _ _ _ _ _ _ _ _ _ _ _)
   | (with_reducible exact ih2 _ _ _ _ _)
   | (with_reducible exact impl_AddResult.mono _ _ _ _ _ _ _ _)
   | (with_reducible exact laws_eqLeague.mono _ _ _ _ _ _ _)
   | (with_reducible exact laws_heldLeague.mono _ _ _ _ _)
   | (with_reducible exact laws_markLeague.mono _ _ _ _ _)
   | (with_reducible exact laws_toLeague.mono _ _ _ _)
   | (with_reducible exact spec_AddResult.mono _ _ _ _ _ _ _ _)
   | (with_reducible exact LeO.refl _)
   | (with_reducible exact LeO.none _)
   | (with_reducible refine LeO.ite ?_ ?_)
   | (with_reducible refine LeO.bind ?_ (fun _ => ?_))
   | exact ih0 _ _ _ _ _ _ _ _ _ _ _ _ _ _ _ _ _ _ _
   | exact ih1 _ _ _ _ _ _ _ _ _ _ _ _ _ _ _
   | exact ih2 _ _ _ _ _
   | exact impl_AddResult.mono _ _ _ _ _ _ _ _
   | exact laws_eqLeague.mono _ _ _ _ _ _ _
   | exact laws_heldLeague.mono _ _ _ _ _
   | exact laws_markLeague.mono _ _ _ _ _
   | exact laws_toLeague.mono _ _ _ _
   | exact spec_AddResult.mono _ _ _ _ _ _ _ _
   | exact LeO.none _
   | refine LeO.ite ?_ ?_
   | refine LeO.bind ?_ (fun _ => ?_)
  ·
   intro y0 y1 y2 y3 y4
   unfold laws_FnExactAddResult.j2
   repeat' first
   | (with_reducible exact ih0 _ _ _ _ _ _ _ _ _ _ _ _ _ _ _ _ _ _ _)
   | (with_reducible exact ih1 _ _ _ _ _ _ _ _ _ _ _ _ _ _ _)
   | (with_reducible exact ih2 _ _ _ _ _)
   | (with_reducible exact impl_AddResult.mono _ _ _ _ _ _ _ _)
   | (with_reducible exact laws_eqLeague.mono _ _ _ _ _ _ _)
   | (with_reducible exact laws_heldLeague.mono _ _ _ _ _)
   | (with_reducible exact laws_markLeague.mono _ _ _ _ _)
   | (with_reducible exact laws_toLeague.mono _ _ _ _)
   | (with_reducible exact spec_AddResult.mono _ _ _ _ _ _ _ _)
   | (with_reducible exact LeO.refl _)
   | (with_reducible exact LeO.none _)
   | (with_reducible refine LeO.ite ?_ ?_)
   | (with_reducible refine LeO.bind ?_ (fun _ => ?_))
   | exact ih0 _ _ _ _ _ _ _ _ _ _ _ _ _ _ _ _ _ _ _
   | exact ih1 _ _ _ _ _ _ _ _ _ _ _ _ _ _ _
   | exact ih2 _ _ _ _ _
   | exact impl_AddResult.mono _ _ _ _ _ _ _ _
   | exact laws_eqLeague.mono _ _ _ _ _ _ _
   | exact laws_heldLeague.mono _ _ _ _ _
   | exact laws_markLeague.mono _ _ _ _ _
   | exact laws_toLeague.mono _ _ _ _
   | exact spec_AddResult.mono _ _ _ _ _ _ _ _
   | exact LeO.none _
   | refine LeO.ite ?_ ?_
   | refine LeO.bind ?_ (fun _ => ?_)
theorem laws_FnExactAddResult.mono : ∀ a0 a1 a2 a3 a4 a5 a6 k, LeO (laws_FnExactAddResult.f k a0 a1 a2 a3 a4 a5 a6) (laws_FnExactAddResult.f (k + 1) a0 a1 a2 a3 a4 a5 a6) := by
 intro a0 a1 a2 a3 a4 a5 a6 k
 obtain ⟨ih0, ih1, ih2⟩ := laws_FnExactAddResult.mono_l k
 unfold laws_FnExactAddResult.f
 repeat' first
   | (with_reducible exact ih0 _ _ _ _ _ _ _ _ _ _ _ _ _ _ _ _ _ _ _)
   | (with_reducible exact ih1 _ _ _ _ _ _ _ _ _ _ _ _ _ _ _)
   | (with_reducible exact ih2 _ _ _ _ _)
   | (with_reducible exact impl_AddResult.mono _ _ _ _ _ _ _ _)
   | (with_reducible exact laws_eqLeague.mono _ _ _ _ _ _ _)
   | (with_reducible exact laws_heldLeague.mono _ _ _ _ _)
   | (with_reducible exact laws_markLeague.mono _ _ _ _ _)
   | (with_reducible exact laws_toLeague.mono _ _ _ _)
   | (with_reducible exact spec_AddResult.mono _ _ _ _ _ _ _ _)
   | (with_reducible exact LeO.refl _)
   | (with_reducible exact LeO.none _)
   | (with_reducible refine LeO.ite ?_ ?_)
   | (with_reducible refine LeO.bind ?_ (fun _ => ?_))
   | exact ih0 _ _ _ _ _ _ _ _ _ _ _ _ _ _ _ _ _ _ _
   | exact ih1 _ _ _ _ _ _ _ _ _ _ _ _ _ _ _
   | exact ih2 _ _ _ _ _
   | exact impl_AddResult.mono _ _ _ _ _ _ _ _
   | exact laws_eqLeague.mono _ _ _ _ _ _ _
   | exact laws_heldLeague.mono _ _ _ _ _
   | exact laws_markLeague.mono _ _ _ _ _
   | exact laws_toLeague.mono _ _ _ _
   | exact spec_AddResult.mono _ _ _ _ _ _ _ _
   | exact LeO.none _
   | refine LeO.ite ?_ ?_
   | refine LeO.bind ?_ (fun _ => ?_)
def laws_FnExactAddResult.T5 : Bool × List (List Nat × List Nat) := (true, [([], []), ([0], [0]), ([], []), ([2, 1], [2]), ([1, 3, 3], [1, 3]), ([4], [4]), ([5], [5]), ([5], [5]), ([], []), ([8, 6, 4, 0, 1, 2, 3, 4, 5, 6, 8], [6, 8]), ([7, 9, 0, 1, 2, 3, 4, 5, 6, 7, 8, 9], [7])])
def laws_FnExactAddResult.B5 : List Nat := [0, 1, 0, 7, 15, 31, 63, 63, 0, 383, 1023]
theorem laws_FnExactAddResult.tab5 : rtab .any (opsOf Try.f8 5) = laws_FnExactAddResult.T5 := by kernel_rfl
theorem laws_FnExactAddResult.bits5 : waitsOk laws_FnExactAddResult.T5.2 laws_FnExactAddResult.B5 = true := by kernel_rfl
def laws_FnExactAddResult.T7 : Bool × List (List Nat × List Nat) := (true, [([], []), ([], []), ([1], [1]), ([0, 2, 2], [0, 2]), ([3], [3]), ([4], [4]), ([4], [4]), ([], []), ([7, 5, 3, 0, 1, 2, 3, 4, 5, 7], [5, 7]), ([6, 8, 0, 1, 2, 3, 4, 5, 6, 7, 8], [6])])
def laws_FnExactAddResult.B7 : List Nat := [0, 0, 2, 7, 15, 31, 31, 0, 191, 511]
theorem laws_FnExactAddResult.tab7 : rtab .any (opsOf Try.f8 7) = laws_FnExactAddResult.T7 := by kernel_rfl
theorem laws_FnExactAddResult.bits7 : waitsOk laws_FnExactAddResult.T7.2 laws_FnExactAddResult.B7 = true := by kernel_rfl
def laws_FnExactAddResult.T24 : Bool × List (List Nat × List Nat) := (true, [([], []), ([0], [0]), ([], []), ([2, 1], [2]), ([1, 3, 3], [1, 3]), ([4], [4]), ([5], [5]), ([5], [5]), ([], []), ([8, 6, 4, 0, 1, 2, 3, 4, 5, 6, 8], [6, 8]), ([7, 9, 0, 1, 2, 3, 4, 5, 6, 7, 8, 9], [7])])
def laws_FnExactAddResult.B24 : List Nat := [0, 1, 0, 7, 15, 31, 63, 63, 0, 383, 1023]
theorem laws_FnExactAddResult.tab24 : rtab .any (opsOf Try.f8 24) = laws_FnExactAddResult.T24 := by kernel_rfl
theorem laws_FnExactAddResult.bits24 : waitsOk laws_FnExactAddResult.T24.2 laws_FnExactAddResult.B24 = true := by kernel_rfl
set_option maxHeartbeats 8000000 in
set_option maxRecDepth 100000 in
theorem laws_FnExactAddResult.calls (k : Nat) (a0_0 : Int) (a0_1 : Int) (A0_2 : Option Addr) (c0_2 : Nat) (l0_2 : List (S48)) (a1_0 : Int) (a1_1 : Int) (a1_2 : Int) (a1_3 : Int) (r : Bool) (w : World) (hr0_2 : Kd.C k48 w A0_2 l0_2.length l0_2) (hc0_2 : l0_2.length ≤ c0_2) (h : laws_FnExactAddResult.f k a0_0 a0_1 l0_2 a1_0 a1_1 a1_2 a1_3 = some r) :
  Calls Try.prog 8 #[.agg #[.int .i64 a0_0, .int .i64 a0_1, .slice A0_2 l0_2.length c0_2], .agg #[.int .i64 a1_0, .int .i64 a1_1, .int .i64 a1_2, .int .i64 a1_3]] w fun e w' => e = .returned (.bool r) ∧ Below w.heap.size w w' := by
 have hu30 := Try.underlying30; have hu48 := Try.underlying48; have hu35 := Try.underlying35; have HR0_2 := a_ hr0_2; have HC0_2 := a_ hc0_2; clear hr0_2 hc0_2; have HB := a_ (Below.refl w.heap.size w); have H : ((laws_szLeague.f a0_0 a0_1 l0_2 1048576).bind fun t196 => (if t196 < 0 then (some true) else ((laws_toLeague.f k a0_0 a0_1 l0_2).bind fun bt197 => ((laws_toResult.f a1_0 a1_1 a1_2 a1_3).bind fun bt202 => ((spec_AddResult.f k bt197.1 bt197.2.1 bt197.2.2 bt202.1 bt202.2.1 bt202.2.2.1 bt202.2.2.2).bind fun bt206 => ((laws_toLeague.f k a0_0 a0_1 l0_2).bind fun bt213 => ((laws_toResult.f a1_0 a1_1 a1_2 a1_3).bind fun bt219 => ((impl_AddResult.f k bt213.1 bt213.2.1 bt213.2.2 bt219.1 bt219.2.1 bt219.2.2.1 bt219.2.2.2).bind fun bt223 => ((laws_eqLeague.f k bt223.1 bt223.2.1 bt223.2.2.1 bt206.1 bt206.2.1 bt206.2.2.1).bind fun t230 => (if t230 = true then (laws_FnExactAddResult.j0 k bt206.2.2.2 bt223.2.2.2 (bt223.2.2.2 != bt206.2.2.2) a0_0 a0_1 l0_2 a1_0 a1_1 a1_2 a1_3 bt206.1 bt206.2.1 bt206.2.2.1 bt213.1 bt213.2.1 bt213.2.2 bt223.1 bt223.2.1 bt223.2.2.1) else (laws_FnExactAddResult.j0 k bt206.2.2.2 bt223.2.2.2 true a0_0 a0_1 l0_2 a1_0 a1_1 a1_2 a1_3 bt206.1 bt206.2.1 bt206.2.2.1 bt213.1 bt213.2.1 bt213.2.2 bt223.1 bt223.2.1 bt223.2.2.1))))))))))) = some r := h; clear h; replace H := Option.bind_eq_some_iff.mp H; obtain ⟨t196, A30, H⟩ := H; replace H : (if t196 < 0 then (some true) else ((laws_toLeague.f k a0_0 a0_1 l0_2).bind fun bt197 => ((laws_toResult.f a1_0 a1_1 a1_2 a1_3).bind fun bt202 => ((spec_AddResult.f k bt197.1 bt197.2.1 bt197.2.2 bt202.1 bt202.2.1 bt202.2.2.1 bt202.2.2.2).bind fun bt206 => ((laws_toLeague.f k a0_0 a0_1 l0_2).bind fun bt213 => ((laws_toResult.f a1_0 a1_1 a1_2 a1_3).bind fun bt219 => ((impl_AddResult.f k bt213.1 bt213.2.1 bt213.2.2 bt219.1 bt219.2.1 bt219.2.2.1 bt219.2.2.2).bind fun bt223 => ((laws_eqLeague.f k bt223.1 bt223.2.1 bt223.2.2.1 bt206.1 bt206.2.1 bt206.2.2.1).bind fun t230 => (if t230 = true then (laws_FnExactAddResult.j0 k bt206.2.2.2 bt223.2.2.2 (bt223.2.2.2 != bt206.2.2.2) a0_0 a0_1 l0_2 a1_0 a1_1 a1_2 a1_3 bt206.1 bt206.2.1 bt206.2.2.1 bt213.1 bt213.2.1 bt213.2.2 bt223.1 bt223.2.1 bt223.2.2.1) else (laws_FnExactAddResult.j0 k bt206.2.2.2 bt223.2.2.2 true a0_0 a0_1 l0_2 a1_0 a1_1 a1_2 a1_3 bt206.1 bt206.2.1 bt206.2.2.1 bt213.1 bt213.2.1 bt213.2.2 bt223.1 bt223.2.1 bt223.2.2.1)))))))))) = some r := H; have A3 := a_ A30; clear A30
 by_cases c4 : t196 < 0
 ·
  rw [if_pos c4] at H; have c4b0 : decide (t196 < 0) = true := decide_eq_true c4; clear c4; obtain rfl := Option.some.inj H
  go_enter Try.func8, Try.ntmps8
  go_wp2_with (first | ((with_reducible refine gate_dst (N := 2) rfl ?_); refine box_event ?hg (N := 2) ?hd (cs := #[.int .i64 a0_0, .int .i64 a0_1, .slice A0_2 l0_2.length c0_2]) (t := 30) ?hr ?_; (case hd => rfl); (case hg => rfl); (case hr => first | (go_simp; done) | (go_simp; rfl)); intro gb194 hg w5 hbox hb; have n0_ := a_ (below_step (L_ HB.out (Nat.le_refl _) (Nat.le_refl _) (Nat.le_refl _)) hb); have n1_ := a_ (hbox); have n2_ := a_ ((by rw [hg]; exact (below_size (L_ HB.out (Nat.le_refl _) (Nat.le_refl _) (Nat.le_refl _))) : w.heap.size ≤ gb194)); have n3_ := a_ ((by rw [hg]; exact (below_size (L_ HB.out (Nat.le_refl _) (Nat.le_refl _) (Nat.le_refl _))) : w.heap.size ≤ gb194)); clear HB; have HB := n0_; have BK194 := n1_; have GW194 := n2_; have GE194 := n3_; clear n0_ n1_ n2_ n3_; clear hb hbox hg) | ((with_reducible refine gate_dst (N := 3) rfl ?_); refine box_event ?hg (N := 3) ?hd (cs := #[.int .i64 a1_0, .int .i64 a1_1, .int .i64 a1_2, .int .i64 a1_3]) (t := 48) ?hr ?_; (case hd => rfl); (case hg => rfl); (case hr => first | (go_simp; done) | (go_simp; rfl)); intro gb195 hg w6 hbox hb; have n0_ := bb_ BK194 hb; have n1_ := a_ (below_step (L_ HB.out GE194.out GE194.out GE194.out) hb); have n2_ := a_ (hbox); have n3_ := a_ ((by rw [hg]; exact (below_size (L_ HB.out GE194.out GE194.out GE194.out)) : w.heap.size ≤ gb195)); have n4_ := a_ ((by rw [hg]; exact (below_size (L_ HB.out GE194.out GE194.out GE194.out)) : w.heap.size ≤ gb195)); have n5_ := a_ ((by rw [hg]; exact Nat.ne_of_lt (blk_lt (B_ BK194.out)) : gb194 ≠ gb195)); have n6_ := a_ ((by rw [hg]; exact Nat.ne_of_gt (blk_lt (B_ BK194.out)) : gb195 ≠ gb194)); clear BK194; clear HB; have BK194 := n0_; have HB := n1_; have BK195 := n2_; have GW195 := n3_; have GE195 := n4_; have NB194_195 := n5_; have NB195_194 := n6_; clear n0_ n1_ n2_ n3_ n4_ n5_ n6_; clear hb hbox hg; have hnb7 := NB194_195.out; have hnc7 := NB195_194.out; have hcz8_0 : w6.cell? ⟨gb194, 0, none⟩ = some (.int .i64 a0_0) := c_ BK194.out 0; have hcz8_1 : w6.cell? ⟨gb194, 1, none⟩ = some (.int .i64 a0_1) := c_ BK194.out 1; have hcz8_2 : w6.cell? ⟨gb194, 2, none⟩ = some (.slice A0_2 l0_2.length c0_2) := c_ BK194.out 2; have hfz8_0 := blk_frozen BK194.out 0; have hfz8_1 := blk_frozen BK194.out 1; have hfz8_2 := blk_frozen BK194.out 2) | ((with_reducible refine gate_callee (f := 20) rfl ?_); refine goesL_ (some 18) rfl rfl Try.func20 (by kernel_rfl) rfl #[.agg #[.int .i64 a0_0, .int .i64 a0_1, .slice A0_2 l0_2.length c0_2], .int .i64 1048576] rfl (by (try simp only [m1_, m2_, m3_]); first | done | rfl) ?_; (with_reducible refine (laws_szLeague.calls a0_0 a0_1 _ _ l0_2 1048576 t196 _ ?side1 ?side2 A3.out).mono ?_); (case side1 => repeat (first | exact (Kd.C_below HR0_2.out HB.out) | (with_reducible refine Kd.C_alloc ?_ _) | (with_reducible refine Kd.C_drewN ?_ _) | (with_reducible refine Kd.C_drew ?_))); (case side2 => exact HC0_2.out); rintro e w9 ⟨rfl, hb⟩; refine ⟨_, rfl, ?_⟩; have n0_ := bb_ BK194 hb; have n1_ := bb_ BK195 hb; have n2_ := a_ (below_step (L_ HB.out GE194.out GE195.out GE195.out) hb); clear BK194; clear BK195; clear HB; have BK194 := n0_; have BK195 := n1_; have HB := n2_; clear n0_ n1_ n2_; (try clear hb); (try clear hb2); (try clear hk); (try clear hi)))
  go_ret
  exact ⟨by first | rfl | (simp [errW_none, errW_some] <;> rfl) | (simp [*, errW_none, errW_some] <;> rfl), by repeat (first | (with_reducible first | exact HB.out | apply below_alloc | apply pw_below_drewN | apply below_drew1 | refine below_set ?_ GE194.out | refine below_set ?_ GE195.out) | exact HB.out)⟩
 ·
  rw [if_neg c4] at H; have c4b0 : decide (t196 < 0) = false := decide_eq_false c4; clear c4; replace H := Option.bind_eq_some_iff.mp H; obtain ⟨⟨t197, t198, t199⟩, A100, H⟩ := H; replace H : ((laws_toResult.f a1_0 a1_1 a1_2 a1_3).bind fun bt202 => ((spec_AddResult.f k t197 t198 t199 bt202.1 bt202.2.1 bt202.2.2.1 bt202.2.2.2).bind fun bt206 => ((laws_toLeague.f k a0_0 a0_1 l0_2).bind fun bt213 => ((laws_toResult.f a1_0 a1_1 a1_2 a1_3).bind fun bt219 => ((impl_AddResult.f k bt213.1 bt213.2.1 bt213.2.2 bt219.1 bt219.2.1 bt219.2.2.1 bt219.2.2.2).bind fun bt223 => ((laws_eqLeague.f k bt223.1 bt223.2.1 bt223.2.2.1 bt206.1 bt206.2.1 bt206.2.2.1).bind fun t230 => (if t230 = true then (laws_FnExactAddResult.j0 k bt206.2.2.2 bt223.2.2.2 (bt223.2.2.2 != bt206.2.2.2) a0_0 a0_1 l0_2 a1_0 a1_1 a1_2 a1_3 bt206.1 bt206.2.1 bt206.2.2.1 bt213.1 bt213.2.1 bt213.2.2 bt223.1 bt223.2.1 bt223.2.2.1) else (laws_FnExactAddResult.j0 k bt206.2.2.2 bt223.2.2.2 true a0_0 a0_1 l0_2 a1_0 a1_1 a1_2 a1_3 bt206.1 bt206.2.1 bt206.2.2.1 bt213.1 bt213.2.1 bt213.2.2 bt223.1 bt223.2.1 bt223.2.2.1)))))))) = some r := H; have A10 := a_ A100; clear A100; replace H := Option.bind_eq_some_iff.mp H; obtain ⟨⟨t202, t203, t204, t205⟩, A110, H⟩ := H; replace H : ((spec_AddResult.f k t197 t198 t199 t202 t203 t204 t205).bind fun bt206 => ((laws_toLeague.f k a0_0 a0_1 l0_2).bind fun bt213 => ((laws_toResult.f a1_0 a1_1 a1_2 a1_3).bind fun bt219 => ((impl_AddResult.f k bt213.1 bt213.2.1 bt213.2.2 bt219.1 bt219.2.1 bt219.2.2.1 bt219.2.2.2).bind fun bt223 => ((laws_eqLeague.f k bt223.1 bt223.2.1 bt223.2.2.1 bt206.1 bt206.2.1 bt206.2.2.1).bind fun t230 => (if t230 = true then (laws_FnExactAddResult.j0 k bt206.2.2.2 bt223.2.2.2 (bt223.2.2.2 != bt206.2.2.2) a0_0 a0_1 l0_2 a1_0 a1_1 a1_2 a1_3 bt206.1 bt206.2.1 bt206.2.2.1 bt213.1 bt213.2.1 bt213.2.2 bt223.1 bt223.2.1 bt223.2.2.1) else (laws_FnExactAddResult.j0 k bt206.2.2.2 bt223.2.2.2 true a0_0 a0_1 l0_2 a1_0 a1_1 a1_2 a1_3 bt206.1 bt206.2.1 bt206.2.2.1 bt213.1 bt213.2.1 bt213.2.2 bt223.1 bt223.2.1 bt223.2.2.1))))))) = some r := H; have A11 := a_ A110; clear A110; replace H := Option.bind_eq_some_iff.mp H; obtain ⟨⟨t206, t207, t208, t211⟩, A120, H⟩ := H; replace H : ((laws_toLeague.f k a0_0 a0_1 l0_2).bind fun bt213 => ((laws_toResult.f a1_0 a1_1 a1_2 a1_3).bind fun bt219 => ((impl_AddResult.f k bt213.1 bt213.2.1 bt213.2.2 bt219.1 bt219.2.1 bt219.2.2.1 bt219.2.2.2).bind fun bt223 => ((laws_eqLeague.f k bt223.1 bt223.2.1 bt223.2.2.1 t206 t207 t208).bind fun t230 => (if t230 = true then (laws_FnExactAddResult.j0 k t211 bt223.2.2.2 (bt223.2.2.2 != t211) a0_0 a0_1 l0_2 a1_0 a1_1 a1_2 a1_3 t206 t207 t208 bt213.1 bt213.2.1 bt213.2.2 bt223.1 bt223.2.1 bt223.2.2.1) else (laws_FnExactAddResult.j0 k t211 bt223.2.2.2 true a0_0 a0_1 l0_2 a1_0 a1_1 a1_2 a1_3 t206 t207 t208 bt213.1 bt213.2.1 bt213.2.2 bt223.1 bt223.2.1 bt223.2.2.1)))))) = some r := H; have A12 := a_ A120; clear A120; replace H := Option.bind_eq_some_iff.mp H; obtain ⟨⟨t213, t214, t215⟩, A130, H⟩ := H
  replace H : ((laws_toResult.f a1_0 a1_1 a1_2 a1_3).bind fun bt219 => ((impl_AddResult.f k t213 t214 t215 bt219.1 bt219.2.1 bt219.2.2.1 bt219.2.2.2).bind fun bt223 => ((laws_eqLeague.f k bt223.1 bt223.2.1 bt223.2.2.1 t206 t207 t208).bind fun t230 => (if t230 = true then (laws_FnExactAddResult.j0 k t211 bt223.2.2.2 (bt223.2.2.2 != t211) a0_0 a0_1 l0_2 a1_0 a1_1 a1_2 a1_3 t206 t207 t208 t213 t214 t215 bt223.1 bt223.2.1 bt223.2.2.1) else (laws_FnExactAddResult.j0 k t211 bt223.2.2.2 true a0_0 a0_1 l0_2 a1_0 a1_1 a1_2 a1_3 t206 t207 t208 t213 t214 t215 bt223.1 bt223.2.1 bt223.2.2.1))))) = some r := H; have A13 := a_ A130; clear A130; replace H := Option.bind_eq_some_iff.mp H; obtain ⟨⟨t219, t220, t221, t222⟩, A140, H⟩ := H; replace H : ((impl_AddResult.f k t213 t214 t215 t219 t220 t221 t222).bind fun bt223 => ((laws_eqLeague.f k bt223.1 bt223.2.1 bt223.2.2.1 t206 t207 t208).bind fun t230 => (if t230 = true then (laws_FnExactAddResult.j0 k t211 bt223.2.2.2 (bt223.2.2.2 != t211) a0_0 a0_1 l0_2 a1_0 a1_1 a1_2 a1_3 t206 t207 t208 t213 t214 t215 bt223.1 bt223.2.1 bt223.2.2.1) else (laws_FnExactAddResult.j0 k t211 bt223.2.2.2 true a0_0 a0_1 l0_2 a1_0 a1_1 a1_2 a1_3 t206 t207 t208 t213 t214 t215 bt223.1 bt223.2.1 bt223.2.2.1)))) = some r := H; have A14 := a_ A140; clear A140; replace H := Option.bind_eq_some_iff.mp H; obtain ⟨⟨t223, t224, t225, t228⟩, A150, H⟩ := H; replace H : ((laws_eqLeague.f k t223 t224 t225 t206 t207 t208).bind fun t230 => (if t230 = true then (laws_FnExactAddResult.j0 k t211 t228 (t228 != t211) a0_0 a0_1 l0_2 a1_0 a1_1 a1_2 a1_3 t206 t207 t208 t213 t214 t215 t223 t224 t225) else (laws_FnExactAddResult.j0 k t211 t228 true a0_0 a0_1 l0_2 a1_0 a1_1 a1_2 a1_3 t206 t207 t208 t213 t214 t215 t223 t224 t225))) = some r := H; have A15 := a_ A150; clear A150; have HC16 := a_ H; clear H
  go_enter Try.func8, Try.ntmps8
  try go_wp2_with (first | ((with_reducible refine gate_dst (N := 2) rfl ?_); refine box_event ?hg (N := 2) ?hd (cs := #[.int .i64 a0_0, .int .i64 a0_1, .slice A0_2 l0_2.length c0_2]) (t := 30) ?hr ?_; (case hd => rfl); (case hg => rfl); (case hr => first | (go_simp; done) | (go_simp; rfl)); intro gb194 hg w17 hbox hb; have n0_ := a_ (below_step (L_ HB.out (Nat.le_refl _) (Nat.le_refl _) (Nat.le_refl _)) hb); have n1_ := a_ (hbox); have n2_ := a_ ((by rw [hg]; exact (below_size (L_ HB.out (Nat.le_refl _) (Nat.le_refl _) (Nat.le_refl _))) : w.heap.size ≤ gb194)); have n3_ := a_ ((by rw [hg]; exact (below_size (L_ HB.out (Nat.le_refl _) (Nat.le_refl _) (Nat.le_refl _))) : w.heap.size ≤ gb194)); clear HB; have HB := n0_; have BK194 := n1_; have GW194 := n2_; have GE194 := n3_; clear n0_ n1_ n2_ n3_; clear hb hbox hg) | ((with_reducible refine gate_dst (N := 3) rfl ?_); refine box_event ?hg (N := 3) ?hd (cs := #[.int .i64 a1_0, .int .i64 a1_1, .int .i64 a1_2, .int .i64 a1_3]) (t := 48) ?hr ?_; (case hd => rfl); (case hg => rfl); (case hr => first | (go_simp; done) | (go_simp; rfl)); intro gb195 hg w18 hbox hb; have n0_ := bb_ BK194 hb; have n1_ := a_ (below_step (L_ HB.out GE194.out GE194.out GE194.out) hb); have n2_ := a_ (hbox); have n3_ := a_ ((by rw [hg]; exact (below_size (L_ HB.out GE194.out GE194.out GE194.out)) : w.heap.size ≤ gb195)); have n4_ := a_ ((by rw [hg]; exact (below_size (L_ HB.out GE194.out GE194.out GE194.out)) : w.heap.size ≤ gb195)); have n5_ := a_ ((by rw [hg]; exact Nat.ne_of_lt (blk_lt (B_ BK194.out)) : gb194 ≠ gb195)); have n6_ := a_ ((by rw [hg]; exact Nat.ne_of_gt (blk_lt (B_ BK194.out)) : gb195 ≠ gb194)); clear BK194; clear HB; have BK194 := n0_; have HB := n1_; have BK195 := n2_; have GW195 := n3_; have GE195 := n4_; have NB194_195 := n5_; have NB195_194 := n6_; clear n0_ n1_ n2_ n3_ n4_ n5_ n6_; clear hb hbox hg; have hnb19 := NB194_195.out; have hnc19 := NB195_194.out; have hcz20_0 : w18.cell? ⟨gb194, 0, none⟩ = some (.int .i64 a0_0) := c_ BK194.out 0; have hcz20_1 : w18.cell? ⟨gb194, 1, none⟩ = some (.int .i64 a0_1) := c_ BK194.out 1; have hcz20_2 : w18.cell? ⟨gb194, 2, none⟩ = some (.slice A0_2 l0_2.length c0_2) := c_ BK194.out 2; have hfz20_0 := blk_frozen BK194.out 0; have hfz20_1 := blk_frozen BK194.out 1; have hfz20_2 := blk_frozen BK194.out 2) | ((with_reducible refine gate_callee (f := 20) rfl ?_); refine goesL_ (some 18) rfl rfl Try.func20 (by kernel_rfl) rfl #[.agg #[.int .i64 a0_0, .int .i64 a0_1, .slice A0_2 l0_2.length c0_2], .int .i64 1048576] rfl (by (try simp only [m1_, m2_, m3_]); first | done | rfl) ?_; (with_reducible refine (laws_szLeague.calls a0_0 a0_1 _ _ l0_2 1048576 t196 _ ?side1 ?side2 A3.out).mono ?_); (case side1 => repeat (first | exact (Kd.C_below HR0_2.out HB.out) | (with_reducible refine Kd.C_alloc ?_ _) | (with_reducible refine Kd.C_drewN ?_ _) | (with_reducible refine Kd.C_drew ?_))); (case side2 => exact HC0_2.out); rintro e w21 ⟨rfl, hb⟩; refine ⟨_, rfl, ?_⟩; have n0_ := bb_ BK194 hb; have n1_ := bb_ BK195 hb; have n2_ := a_ (below_step (L_ HB.out GE194.out GE195.out GE195.out) hb); clear BK194; clear BK195; clear HB; have BK194 := n0_; have BK195 := n1_; have HB := n2_; clear n0_ n1_ n2_; (try clear hb); (try clear hb2); (try clear hk); (try clear hi)))
  have n0_ := a_ (blk_drew BK194.out); have n1_ := a_ (blk_drew BK195.out); have n2_ := a_ (below_drew1 HB.out); clear BK194; clear BK195; clear HB; have BK194 := n0_; have BK195 := n1_; have HB := n2_; clear n0_ n1_ n2_
  refine start_ (n := 11) (S := fun w' => w'.cell? ⟨gb194, 0, none⟩ = some (.int .i64 a0_0) ∧ w'.cell? ⟨gb194, 1, none⟩ = some (.int .i64 a0_1) ∧ w'.cell? ⟨gb194, 2, none⟩ = some (.slice A0_2 l0_2.length c0_2) ∧ w'.cell? ⟨gb195, 0, none⟩ = some (.int .i64 a1_0) ∧ w'.cell? ⟨gb195, 1, none⟩ = some (.int .i64 a1_1) ∧ w'.cell? ⟨gb195, 2, none⟩ = some (.int .i64 a1_2) ∧ w'.cell? ⟨gb195, 3, none⟩ = some (.int .i64 a1_3)) (ds := []) #[false, false, false, false, false, false, false, false, false, false, false] (by kernel_rfl) rfl rfl ⟨c_ BK194.out 0, c_ BK194.out 1, c_ BK194.out 2, c_ BK195.out 0, c_ BK195.out 1, c_ BK195.out 2, c_ BK195.out 3⟩ (fun hHeld => ?_); refine with_tabW laws_FnExactAddResult.tab5 laws_FnExactAddResult.bits5 (fun HT_ HW_ => ?_)
  generalize w21.drew = w22 at BK194 BK195 HB hHeld ⊢
  refine take_ (i := 0) (N := some 22) (v := ?_) (a' := ?_) #[true, false, false, false, false, false, false, false, false, false, false] rfl rfl (take_ofW HT_.out HW_.out (by kernel_rfl)) (fun _ _ _ h => h) (Or.inl ⟨by rfl, ?_⟩) hHeld ?_ ?_
  rotate_left
  ·
   rintro w' ⟨s0, s1, s2, s3, s4, s5, s6⟩
   go_simp
   with_reducible rfl
  rotate_left
  ·
   simp only [Act.put, List.setIfInBounds_toArray, List.set_cons_zero, List.set_cons_succ, i64_w, i32_w]
   rfl
  refine take_ (i := 2) (N := some 24) (v := ?_) (a' := ?_) #[true, false, true, false, false, false, false, false, false, false, false] rfl rfl (take_ofW HT_.out HW_.out (by kernel_rfl)) (fun _ _ _ h => h) (Or.inl ⟨by rfl, ?_⟩) hHeld ?_ ?_
  rotate_left
  ·
   rintro w' ⟨s0, s1, s2, s3, s4, s5, s6⟩
   go_simp
   with_reducible rfl
  rotate_left
  ·
   simp only [Act.put, List.setIfInBounds_toArray, List.set_cons_zero, List.set_cons_succ, i64_w, i32_w]
   rfl
  refine join_ (σ := Value × Value × Nat) 2 #[true, true, true, true, true, true, true, true, true, false, false] (fun s_ => [(23, .agg #[.int .i64 t197, .int .i64 t198, s_.1]), (25, .agg #[.int .i64 t202, .int .i64 t203, .int .i64 t204, .int .i64 t205]), (26, .tuple #[.agg #[.int .i64 t206, .int .i64 t207, s_.2.1], .bool t211]), (6, .pointer (some ⟨s_.2.2, 0, none⟩)), (21, .tuple #[.agg #[.int .i64 t206, .int .i64 t207, s_.2.1], .bool t211]), (27, .agg #[.int .i64 t206, .int .i64 t207, s_.2.1]), (28, .bool t211)]) (fun s_ w' => (w'.cell? ⟨gb194, 0, none⟩ = some (.int .i64 a0_0) ∧ w'.cell? ⟨gb194, 1, none⟩ = some (.int .i64 a0_1) ∧ w'.cell? ⟨gb194, 2, none⟩ = some (.slice A0_2 l0_2.length c0_2) ∧ w'.cell? ⟨gb195, 0, none⟩ = some (.int .i64 a1_0) ∧ w'.cell? ⟨gb195, 1, none⟩ = some (.int .i64 a1_1) ∧ w'.cell? ⟨gb195, 2, none⟩ = some (.int .i64 a1_2) ∧ w'.cell? ⟨gb195, 3, none⟩ = some (.int .i64 a1_3)) ∧ (Kd.R k51 51 w' w.heap.size (fun k_ => some k_ ≠ (s_.2.1 : Value).ownBlock) s_.1 t199) ∧ (Kd.R k51 51 w' w.heap.size (fun k_ => some k_ ≠ (s_.1 : Value).ownBlock) s_.2.1 t208) ∧ (w'.heap[gb194]? = some (.cells #[.int .i64 a0_0, .int .i64 a0_1, .slice A0_2 l0_2.length c0_2] 30 (0, 0))) ∧ (w'.heap[gb195]? = some (.cells #[.int .i64 a1_0, .int .i64 a1_1, .int .i64 a1_2, .int .i64 a1_3] 48 (0, 0))) ∧ (w'.heap[s_.2.2]? = some (.cells #[.int .i64 0, .int .i64 0, .slice none 0 0] 35 (0, 0))) ∧ (w.heap.size ≤ s_.2.2) ∧ (w.heap.size ≤ s_.2.2) ∧ (gb194 ≠ s_.2.2) ∧ (s_.2.2 ≠ gb194) ∧ (gb195 ≠ s_.2.2) ∧ (s_.2.2 ≠ gb195) ∧ (Below w.heap.size w w')) ?_ ?_
  rotate_left
  ·
   intro hCont
   refine two_ (i := 1) (j := 8) (Ni := some 23) (Nj := some 6) #[true, true, true, false, false, false, false, false, false, false, false] #[true, false, true, false, false, false, false, false, true, false, false] rfl rfl rfl rfl (two_of HT_.out (by kernel_rfl)) (by decide) (by decide) (fun K hK => ?_) (fun K hK => ?_)
   ·
    skip
    refine goes_ Try.func22 (by kernel_rfl) rfl #[.agg #[.int .i64 a0_0, .int .i64 a0_1, .slice A0_2 l0_2.length c0_2]] (by rfl) rfl rfl (by (try simp only [m1_, m2_, m3_]); first | done | rfl) ?_
    with_reducible refine (laws_toLeague.calls k a0_0 a0_1 _ _ l0_2 t197 t198 t199 _ ?side1 ?side2 A10.out).mono ?_
    (case side1 => repeat (first | exact (Kd.C_below HR0_2.out HB.out) | (with_reducible refine Kd.C_alloc ?_ _) | (with_reducible refine Kd.C_drewN ?_ _) | (with_reducible refine Kd.C_drew ?_)))
    (case side2 => exact HC0_2.out)
    rintro e w23 ⟨v200, rfl, ho0, hb⟩
    refine ⟨_, rfl, ?_⟩
    have n0_ := a_ (Kd.R_lower ho0 (below_size (L_ HB.out GE194.out GE195.out GE195.out))); have n1_ := bb_ BK194 hb; have n2_ := bb_ BK195 hb; have n3_ := a_ (below_step (L_ HB.out GE194.out GE195.out GE195.out) hb); clear BK194; clear BK195; clear HB; have HO201 := n0_; have BK194 := n1_; have BK195 := n2_; have HB := n3_; clear n0_ n1_ n2_ n3_
    (try clear hb)
    (try clear hb2)
    (try clear hk)
    (try clear hi)
    (try clear ho0)
    refine hK.out _ _ ⟨c_ BK194.out 0, c_ BK194.out 1, c_ BK194.out 2, c_ BK195.out 0, c_ BK195.out 1, c_ BK195.out 2, c_ BK195.out 3⟩ (fun hHeld => ?_)
    clear hK K
    refine norm_ (a' := ?_) ?_ ?_
    rotate_left
    ·
     show Act.put _ (some 23) _ = _
     simp only [Act.put, List.setIfInBounds_toArray, List.set_cons_zero, List.set_cons_succ, i64_w, i32_w]
     rfl
    refine two_ (i := 3) (j := 8) (Ni := some 25) (Nj := some 6) #[true, true, true, true, false, false, false, false, false, false, false] #[true, true, true, false, false, false, false, false, true, false, false] rfl rfl rfl rfl (two_of HT_.out (by kernel_rfl)) (by decide) (by decide) (fun K hK => ?_) (fun K hK => ?_)
    ·
     skip
     refine goes_ Try.func32 (by kernel_rfl) rfl #[.agg #[.int .i64 a1_0, .int .i64 a1_1, .int .i64 a1_2, .int .i64 a1_3]] (by rfl) rfl rfl (by (try simp only [m1_, m2_, m3_]); first | done | rfl) ?_
     with_reducible refine (laws_toResult.calls a1_0 a1_1 a1_2 a1_3 t202 t203 t204 t205 _ A11.out).mono ?_
     rintro e w24 ⟨rfl, hb⟩
     refine ⟨_, rfl, ?_⟩
     have n0_ := a_ (Kd.R_below (R_ HO201.out) hb); have n1_ := bb_ BK194 hb; have n2_ := bb_ BK195 hb; have n3_ := a_ (below_step (L_ HB.out GE194.out GE195.out GE195.out) hb); clear HO201; clear BK194; clear BK195; clear HB; have HO201 := n0_; have BK194 := n1_; have BK195 := n2_; have HB := n3_; clear n0_ n1_ n2_ n3_
     (try clear hb)
     (try clear hb2)
     (try clear hk)
     (try clear hi)
     obtain ⟨Ao25, co25, eo25⟩ := Kd.R_slice HO201.out
     (first | subst eo25 | (injection eo25 with f1_ f2_ f3_; have f4_ := f1_.symm; have f5_ := f3_.symm; clear f1_ f2_ f3_; subst f4_; subst f5_))
     refine hK.out _ _ ⟨c_ BK194.out 0, c_ BK194.out 1, c_ BK194.out 2, c_ BK195.out 0, c_ BK195.out 1, c_ BK195.out 2, c_ BK195.out 3⟩ (fun hHeld => ?_)
     clear hK K
     refine norm_ (a' := ?_) ?_ ?_
     rotate_left
     ·
      show Act.put _ (some 25) _ = _
      simp only [Act.put, List.setIfInBounds_toArray, List.set_cons_zero, List.set_cons_succ, i64_w, i32_w]
      rfl
     refine two_ (i := 4) (j := 8) (Ni := some 26) (Nj := some 6) #[true, true, true, true, true, false, false, false, false, false, false] #[true, true, true, true, false, false, false, false, true, false, false] rfl rfl rfl rfl (two_of HT_.out (by kernel_rfl)) (by decide) (by decide) (fun K hK => ?_) (fun K hK => ?_)
     ·
      skip
      refine goes_ Try.func31 (by kernel_rfl) rfl #[.agg #[.int .i64 t197, .int .i64 t198, .slice Ao25 t199.length co25], .agg #[.int .i64 t202, .int .i64 t203, .int .i64 t204, .int .i64 t205]] (by rfl) rfl rfl (by (try simp only [m1_, m2_, m3_]); first | done | rfl) ?_
      with_reducible refine (spec_AddResult.calls k t197 t198 _ _ t199 t202 t203 t204 t205 t206 t207 t208 t211 _ ?side1 ?side2 A12.out).mono ?_
      (case side1 => repeat (first | exact (Kd.R_reads' HO201.out).2.2 | (with_reducible refine Kd.C_alloc ?_ _) | (with_reducible refine Kd.C_drewN ?_ _) | (with_reducible refine Kd.C_drew ?_)))
      (case side2 => exact (Kd.R_reads' HO201.out).2.1)
      rintro e w26 ⟨v209, rfl, ho0, hb⟩
      refine ⟨_, rfl, ?_⟩
      have n0_ := a_ (Kd.R_elder' (R_ HO201.out) (Kd.R_base ho0) hb); have n1_ := a_ (Kd.R_lower (Kd.R_new' ho0 (Kd.R_lt (R_ HO201.out))) (below_size (L_ HB.out GE194.out GE195.out GE195.out))); have n2_ := bb_ BK194 hb; have n3_ := bb_ BK195 hb; have n4_ := a_ (below_step (L_ HB.out GE194.out GE195.out GE195.out) hb); clear HO201; clear BK194; clear BK195; clear HB; have HO201 := n0_; have HO210 := n1_; have BK194 := n2_; have BK195 := n3_; have HB := n4_; clear n0_ n1_ n2_ n3_ n4_
      (try clear hb)
      (try clear hb2)
      (try clear hk)
      (try clear hi)
      (try clear ho0)
      refine hK.out _ _ ⟨c_ BK194.out 0, c_ BK194.out 1, c_ BK194.out 2, c_ BK195.out 0, c_ BK195.out 1, c_ BK195.out 2, c_ BK195.out 3⟩ (fun hHeld => ?_)
      clear hK K
      refine norm_ (a' := ?_) ?_ ?_
      rotate_left
      ·
       show Act.put _ (some 26) _ = _
       simp only [Act.put, List.setIfInBounds_toArray, List.set_cons_zero, List.set_cons_succ, i64_w, i32_w]
       rfl
      refine pure_ (i := 5) (N := some 21) (v := ?_) (a' := ?_) #[true, true, true, true, true, true, false, false, false, false, false] rfl rfl (any_of HT_.out (by kernel_rfl)) (fun _ _ _ h => h) (Or.inl ⟨by rfl, ?_⟩) ?_ ?_
      rotate_left
      ·
       intro w'
       go_simp
       with_reducible rfl
      rotate_left
      ·
       simp only [Act.put, List.setIfInBounds_toArray, List.set_cons_zero, List.set_cons_succ, i64_w, i32_w]
       rfl
      refine pure_ (i := 6) (N := some 27) (v := ?_) (a' := ?_) #[true, true, true, true, true, true, true, false, false, false, false] rfl rfl (any_of HT_.out (by kernel_rfl)) (fun _ _ _ h => h) (Or.inl ⟨by rfl, ?_⟩) ?_ ?_
      rotate_left
      ·
       intro w'
       go_simp
       with_reducible rfl
      rotate_left
      ·
       simp only [Act.put, List.setIfInBounds_toArray, List.set_cons_zero, List.set_cons_succ, i64_w, i32_w]
       rfl
      refine pure_ (i := 7) (N := some 28) (v := ?_) (a' := ?_) #[true, true, true, true, true, true, true, true, false, false, false] rfl rfl (any_of HT_.out (by kernel_rfl)) (fun _ _ _ h => h) (Or.inl ⟨by rfl, ?_⟩) ?_ ?_
      rotate_left
      ·
       intro w'
       go_simp
       with_reducible rfl
      rotate_left
      ·
       simp only [Act.put, List.setIfInBounds_toArray, List.set_cons_zero, List.set_cons_succ, i64_w, i32_w]
       rfl
      refine one_ (i := 8) (N := some 6) #[true, true, true, true, true, true, true, true, true, false, false] rfl rfl (one_of HT_.out (by kernel_rfl)) (by decide) (fun K hK => ?_)
      refine box_step ?hg (N := 6) ?hd (cs := #[.int .i64 0, .int .i64 0, .slice none 0 0]) (t := 35) ?hr ?_; (case hd => rfl); (case hg => rfl); (case hr => first | (go_simp; done) | (go_simp; rfl))
      intro gb212 hg w27 hbox hb
      have n0_ := a_ (Kd.R_below (R_ HO201.out) hb); have n1_ := a_ (Kd.R_below (R_ HO210.out) hb); have n2_ := bb_ BK194 hb; have n3_ := bb_ BK195 hb; have n4_ := a_ (below_step (L_ HB.out GE194.out GE195.out GE195.out) hb); have n5_ := a_ (hbox); have n6_ := a_ ((by rw [hg]; exact (below_size (L_ HB.out GE194.out GE195.out GE195.out)) : w.heap.size ≤ gb212)); have n7_ := a_ ((by rw [hg]; exact (below_size (L_ HB.out GE194.out GE195.out GE195.out)) : w.heap.size ≤ gb212)); have n8_ := a_ ((by rw [hg]; exact Nat.ne_of_lt (blk_lt (B_ BK194.out)) : gb194 ≠ gb212)); have n9_ := a_ ((by rw [hg]; exact Nat.ne_of_gt (blk_lt (B_ BK194.out)) : gb212 ≠ gb194)); have n10_ := a_ ((by rw [hg]; exact Nat.ne_of_lt (blk_lt (B_ BK195.out)) : gb195 ≠ gb212)); have n11_ := a_ ((by rw [hg]; exact Nat.ne_of_gt (blk_lt (B_ BK195.out)) : gb212 ≠ gb195)); clear HO201; clear HO210; clear BK194; clear BK195; clear HB; have HO201 := n0_; have HO210 := n1_; have BK194 := n2_; have BK195 := n3_; have HB := n4_; have BK212 := n5_; have GW212 := n6_; have GE212 := n7_; have NB194_212 := n8_; have NB212_194 := n9_; have NB195_212 := n10_; have NB212_195 := n11_; clear n0_ n1_ n2_ n3_ n4_ n5_ n6_ n7_ n8_ n9_ n10_ n11_; clear hb hbox hg
      refine hK.out _ _ ⟨c_ BK194.out 0, c_ BK194.out 1, c_ BK194.out 2, c_ BK195.out 0, c_ BK195.out 1, c_ BK195.out 2, c_ BK195.out 3⟩ (fun hHeld => ?_)
      clear hK K
      refine norm_ (a' := ?_) ?_ ?_
      rotate_left
      ·
       show Act.put _ (some 6) _ = _
       simp only [Act.put, List.setIfInBounds_toArray, List.set_cons_zero, List.set_cons_succ, i64_w, i32_w]
       rfl
      exact norm_ (by simp only [putAll, Act.put, List.setIfInBounds_toArray, List.set_cons_zero, List.set_cons_succ]) (hCont (.slice Ao25 t199.length co25, v209, gb212) _ ⟨hHeld, (by (with_reducible repeat (first | apply Kd.R_alloc | apply Kd.R_drewN | apply Kd.R_drew)); exact Kd.R_mono HO201.out (fun _ hk => hk.2)), (by (with_reducible repeat (first | apply Kd.R_alloc | apply Kd.R_drewN | apply Kd.R_drew)); exact Kd.R_mono HO210.out (fun _ hk => hk.2)), (B_ BK194.out), (B_ BK195.out), (B_ BK212.out), GW212.out, GE212.out, NB194_212.out, NB212_194.out, NB195_212.out, NB212_195.out, (L_ HB.out GE194.out GE195.out GE212.out)⟩)
     ·
      skip
      refine box_step ?hg (N := 6) ?hd (cs := #[.int .i64 0, .int .i64 0, .slice none 0 0]) (t := 35) ?hr ?_; (case hd => rfl); (case hg => rfl); (case hr => first | (go_simp; done) | (go_simp; rfl))
      intro gb212 hg w25 hbox hb
      have n0_ := a_ (Kd.R_below (R_ HO201.out) hb); have n1_ := bb_ BK194 hb; have n2_ := bb_ BK195 hb; have n3_ := a_ (below_step (L_ HB.out GE194.out GE195.out GE195.out) hb); have n4_ := a_ (hbox); have n5_ := a_ ((by rw [hg]; exact (below_size (L_ HB.out GE194.out GE195.out GE195.out)) : w.heap.size ≤ gb212)); have n6_ := a_ ((by rw [hg]; exact (below_size (L_ HB.out GE194.out GE195.out GE195.out)) : w.heap.size ≤ gb212)); have n7_ := a_ ((by rw [hg]; exact Nat.ne_of_lt (blk_lt (B_ BK194.out)) : gb194 ≠ gb212)); have n8_ := a_ ((by rw [hg]; exact Nat.ne_of_gt (blk_lt (B_ BK194.out)) : gb212 ≠ gb194)); have n9_ := a_ ((by rw [hg]; exact Nat.ne_of_lt (blk_lt (B_ BK195.out)) : gb195 ≠ gb212)); have n10_ := a_ ((by rw [hg]; exact Nat.ne_of_gt (blk_lt (B_ BK195.out)) : gb212 ≠ gb195)); clear HO201; clear BK194; clear BK195; clear HB; have HO201 := n0_; have BK194 := n1_; have BK195 := n2_; have HB := n3_; have BK212 := n4_; have GW212 := n5_; have GE212 := n6_; have NB194_212 := n7_; have NB212_194 := n8_; have NB195_212 := n9_; have NB212_195 := n10_; clear n0_ n1_ n2_ n3_ n4_ n5_ n6_ n7_ n8_ n9_ n10_; clear hb hbox hg; obtain ⟨Ao26, co26, eo26⟩ := Kd.R_slice HO201.out
      (first | subst eo26 | (injection eo26 with f1_ f2_ f3_; have f4_ := f1_.symm; have f5_ := f3_.symm; clear f1_ f2_ f3_; subst f4_; subst f5_))
      refine hK.out _ _ ⟨c_ BK194.out 0, c_ BK194.out 1, c_ BK194.out 2, c_ BK195.out 0, c_ BK195.out 1, c_ BK195.out 2, c_ BK195.out 3⟩ (fun hHeld => ?_)
      clear hK K
      refine norm_ (a' := ?_) ?_ ?_
      rotate_left
      ·
       show Act.put _ (some 6) _ = _
       simp only [Act.put, List.setIfInBounds_toArray, List.set_cons_zero, List.set_cons_succ, i64_w, i32_w]
       rfl
      refine one_ (i := 4) (N := some 26) #[true, true, true, true, true, false, false, false, true, false, false] rfl rfl (one_of HT_.out (by kernel_rfl)) (by decide) (fun K hK => ?_)
      refine goes_ Try.func31 (by kernel_rfl) rfl #[.agg #[.int .i64 t197, .int .i64 t198, .slice Ao26 t199.length co26], .agg #[.int .i64 t202, .int .i64 t203, .int .i64 t204, .int .i64 t205]] (by rfl) rfl rfl (by (try simp only [m1_, m2_, m3_]); first | done | rfl) ?_
      with_reducible refine (spec_AddResult.calls k t197 t198 _ _ t199 t202 t203 t204 t205 t206 t207 t208 t211 _ ?side1 ?side2 A12.out).mono ?_
      (case side1 => repeat (first | exact (Kd.R_reads' HO201.out).2.2 | (with_reducible refine Kd.C_alloc ?_ _) | (with_reducible refine Kd.C_drewN ?_ _) | (with_reducible refine Kd.C_drew ?_)))
      (case side2 => exact (Kd.R_reads' HO201.out).2.1)
      rintro e w27 ⟨v209, rfl, ho0, hb⟩
      refine ⟨_, rfl, ?_⟩
      have n0_ := a_ (Kd.R_elder' (R_ HO201.out) (Kd.R_base ho0) hb); have n1_ := a_ (Kd.R_lower (Kd.R_new' ho0 (Kd.R_lt (R_ HO201.out))) (below_size (L_ HB.out GE194.out GE195.out GE212.out))); have n2_ := bb_ BK194 hb; have n3_ := bb_ BK195 hb; have n4_ := bb_ BK212 hb; have n5_ := a_ (below_step (L_ HB.out GE194.out GE195.out GE212.out) hb); clear HO201; clear BK194; clear BK195; clear BK212; clear HB; have HO201 := n0_; have HO210 := n1_; have BK194 := n2_; have BK195 := n3_; have BK212 := n4_; have HB := n5_; clear n0_ n1_ n2_ n3_ n4_ n5_
      (try clear hb)
      (try clear hb2)
      (try clear hk)
      (try clear hi)
      (try clear ho0)
      refine hK.out _ _ ⟨c_ BK194.out 0, c_ BK194.out 1, c_ BK194.out 2, c_ BK195.out 0, c_ BK195.out 1, c_ BK195.out 2, c_ BK195.out 3⟩ (fun hHeld => ?_)
      clear hK K
      refine norm_ (a' := ?_) ?_ ?_
      rotate_left
      ·
       show Act.put _ (some 26) _ = _
       simp only [Act.put, List.setIfInBounds_toArray, List.set_cons_zero, List.set_cons_succ, i64_w, i32_w]
       rfl
      refine pure_ (i := 5) (N := some 21) (v := ?_) (a' := ?_) #[true, true, true, true, true, true, false, false, true, false, false] rfl rfl (any_of HT_.out (by kernel_rfl)) (fun _ _ _ h => h) (Or.inl ⟨by rfl, ?_⟩) ?_ ?_
      rotate_left
      ·
       intro w'
       go_simp
       with_reducible rfl
      rotate_left
      ·
       simp only [Act.put, List.setIfInBounds_toArray, List.set_cons_zero, List.set_cons_succ, i64_w, i32_w]
       rfl
      refine pure_ (i := 6) (N := some 27) (v := ?_) (a' := ?_) #[true, true, true, true, true, true, true, false, true, false, false] rfl rfl (any_of HT_.out (by kernel_rfl)) (fun _ _ _ h => h) (Or.inl ⟨by rfl, ?_⟩) ?_ ?_
      rotate_left
      ·
       intro w'
       go_simp
       with_reducible rfl
      rotate_left
      ·
       simp only [Act.put, List.setIfInBounds_toArray, List.set_cons_zero, List.set_cons_succ, i64_w, i32_w]
       rfl
      refine pure_ (i := 7) (N := some 28) (v := ?_) (a' := ?_) #[true, true, true, true, true, true, true, true, true, false, false] rfl rfl (any_of HT_.out (by kernel_rfl)) (fun _ _ _ h => h) (Or.inl ⟨by rfl, ?_⟩) ?_ ?_
      rotate_left
      ·
       intro w'
       go_simp
       with_reducible rfl
      rotate_left
      ·
       simp only [Act.put, List.setIfInBounds_toArray, List.set_cons_zero, List.set_cons_succ, i64_w, i32_w]
       rfl
      exact norm_ (by simp only [putAll, Act.put, List.setIfInBounds_toArray, List.set_cons_zero, List.set_cons_succ]) (hCont (.slice Ao26 t199.length co26, v209, gb212) _ ⟨hHeld, (by (with_reducible repeat (first | apply Kd.R_alloc | apply Kd.R_drewN | apply Kd.R_drew)); exact Kd.R_mono HO201.out (fun _ hk => hk.2)), (by (with_reducible repeat (first | apply Kd.R_alloc | apply Kd.R_drewN | apply Kd.R_drew)); exact Kd.R_mono HO210.out (fun _ hk => hk.2)), (B_ BK194.out), (B_ BK195.out), (B_ BK212.out), GW212.out, GE212.out, NB194_212.out, NB212_194.out, NB195_212.out, NB212_195.out, (L_ HB.out GE194.out GE195.out GE212.out)⟩)
    ·
     skip
     refine box_step ?hg (N := 6) ?hd (cs := #[.int .i64 0, .int .i64 0, .slice none 0 0]) (t := 35) ?hr ?_; (case hd => rfl); (case hg => rfl); (case hr => first | (go_simp; done) | (go_simp; rfl))
     intro gb212 hg w24 hbox hb
     have n0_ := a_ (Kd.R_below (R_ HO201.out) hb); have n1_ := bb_ BK194 hb; have n2_ := bb_ BK195 hb; have n3_ := a_ (below_step (L_ HB.out GE194.out GE195.out GE195.out) hb); have n4_ := a_ (hbox); have n5_ := a_ ((by rw [hg]; exact (below_size (L_ HB.out GE194.out GE195.out GE195.out)) : w.heap.size ≤ gb212)); have n6_ := a_ ((by rw [hg]; exact (below_size (L_ HB.out GE194.out GE195.out GE195.out)) : w.heap.size ≤ gb212)); have n7_ := a_ ((by rw [hg]; exact Nat.ne_of_lt (blk_lt (B_ BK194.out)) : gb194 ≠ gb212)); have n8_ := a_ ((by rw [hg]; exact Nat.ne_of_gt (blk_lt (B_ BK194.out)) : gb212 ≠ gb194)); have n9_ := a_ ((by rw [hg]; exact Nat.ne_of_lt (blk_lt (B_ BK195.out)) : gb195 ≠ gb212)); have n10_ := a_ ((by rw [hg]; exact Nat.ne_of_gt (blk_lt (B_ BK195.out)) : gb212 ≠ gb195)); clear HO201; clear BK194; clear BK195; clear HB; have HO201 := n0_; have BK194 := n1_; have BK195 := n2_; have HB := n3_; have BK212 := n4_; have GW212 := n5_; have GE212 := n6_; have NB194_212 := n7_; have NB212_194 := n8_; have NB195_212 := n9_; have NB212_195 := n10_; clear n0_ n1_ n2_ n3_ n4_ n5_ n6_ n7_ n8_ n9_ n10_; clear hb hbox hg
     refine hK.out _ _ ⟨c_ BK194.out 0, c_ BK194.out 1, c_ BK194.out 2, c_ BK195.out 0, c_ BK195.out 1, c_ BK195.out 2, c_ BK195.out 3⟩ (fun hHeld => ?_)
     clear hK K
     refine norm_ (a' := ?_) ?_ ?_
     rotate_left
     ·
      show Act.put _ (some 6) _ = _
      simp only [Act.put, List.setIfInBounds_toArray, List.set_cons_zero, List.set_cons_succ, i64_w, i32_w]
      rfl
     refine one_ (i := 3) (N := some 25) #[true, true, true, true, false, false, false, false, true, false, false] rfl rfl (one_of HT_.out (by kernel_rfl)) (by decide) (fun K hK => ?_)
     refine goes_ Try.func32 (by kernel_rfl) rfl #[.agg #[.int .i64 a1_0, .int .i64 a1_1, .int .i64 a1_2, .int .i64 a1_3]] (by rfl) rfl rfl (by (try simp only [m1_, m2_, m3_]); first | done | rfl) ?_
     with_reducible refine (laws_toResult.calls a1_0 a1_1 a1_2 a1_3 t202 t203 t204 t205 _ A11.out).mono ?_
     rintro e w25 ⟨rfl, hb⟩
     refine ⟨_, rfl, ?_⟩
     have n0_ := a_ (Kd.R_below (R_ HO201.out) hb); have n1_ := bb_ BK194 hb; have n2_ := bb_ BK195 hb; have n3_ := bb_ BK212 hb; have n4_ := a_ (below_step (L_ HB.out GE194.out GE195.out GE212.out) hb); clear HO201; clear BK194; clear BK195; clear BK212; clear HB; have HO201 := n0_; have BK194 := n1_; have BK195 := n2_; have BK212 := n3_; have HB := n4_; clear n0_ n1_ n2_ n3_ n4_
     (try clear hb)
     (try clear hb2)
     (try clear hk)
     (try clear hi)
     obtain ⟨Ao26, co26, eo26⟩ := Kd.R_slice HO201.out
     (first | subst eo26 | (injection eo26 with f1_ f2_ f3_; have f4_ := f1_.symm; have f5_ := f3_.symm; clear f1_ f2_ f3_; subst f4_; subst f5_))
     refine hK.out _ _ ⟨c_ BK194.out 0, c_ BK194.out 1, c_ BK194.out 2, c_ BK195.out 0, c_ BK195.out 1, c_ BK195.out 2, c_ BK195.out 3⟩ (fun hHeld => ?_)
     clear hK K
     refine norm_ (a' := ?_) ?_ ?_
     rotate_left
     ·
      show Act.put _ (some 25) _ = _
      simp only [Act.put, List.setIfInBounds_toArray, List.set_cons_zero, List.set_cons_succ, i64_w, i32_w]
      rfl
     refine one_ (i := 4) (N := some 26) #[true, true, true, true, true, false, false, false, true, false, false] rfl rfl (one_of HT_.out (by kernel_rfl)) (by decide) (fun K hK => ?_)
     refine goes_ Try.func31 (by kernel_rfl) rfl #[.agg #[.int .i64 t197, .int .i64 t198, .slice Ao26 t199.length co26], .agg #[.int .i64 t202, .int .i64 t203, .int .i64 t204, .int .i64 t205]] (by rfl) rfl rfl (by (try simp only [m1_, m2_, m3_]); first | done | rfl) ?_
     with_reducible refine (spec_AddResult.calls k t197 t198 _ _ t199 t202 t203 t204 t205 t206 t207 t208 t211 _ ?side1 ?side2 A12.out).mono ?_
     (case side1 => repeat (first | exact (Kd.R_reads' HO201.out).2.2 | (with_reducible refine Kd.C_alloc ?_ _) | (with_reducible refine Kd.C_drewN ?_ _) | (with_reducible refine Kd.C_drew ?_)))
     (case side2 => exact (Kd.R_reads' HO201.out).2.1)
     rintro e w27 ⟨v209, rfl, ho0, hb⟩
     refine ⟨_, rfl, ?_⟩
     have n0_ := a_ (Kd.R_elder' (R_ HO201.out) (Kd.R_base ho0) hb); have n1_ := a_ (Kd.R_lower (Kd.R_new' ho0 (Kd.R_lt (R_ HO201.out))) (below_size (L_ HB.out GE194.out GE195.out GE212.out))); have n2_ := bb_ BK194 hb; have n3_ := bb_ BK195 hb; have n4_ := bb_ BK212 hb; have n5_ := a_ (below_step (L_ HB.out GE194.out GE195.out GE212.out) hb); clear HO201; clear BK194; clear BK195; clear BK212; clear HB; have HO201 := n0_; have HO210 := n1_; have BK194 := n2_; have BK195 := n3_; have BK212 := n4_; have HB := n5_; clear n0_ n1_ n2_ n3_ n4_ n5_
     (try clear hb)
     (try clear hb2)
     (try clear hk)
     (try clear hi)
     (try clear ho0)
     refine hK.out _ _ ⟨c_ BK194.out 0, c_ BK194.out 1, c_ BK194.out 2, c_ BK195.out 0, c_ BK195.out 1, c_ BK195.out 2, c_ BK195.out 3⟩ (fun hHeld => ?_)
     clear hK K
     refine norm_ (a' := ?_) ?_ ?_
     rotate_left
     ·
      show Act.put _ (some 26) _ = _
      simp only [Act.put, List.setIfInBounds_toArray, List.set_cons_zero, List.set_cons_succ, i64_w, i32_w]
      rfl
     refine pure_ (i := 5) (N := some 21) (v := ?_) (a' := ?_) #[true, true, true, true, true, true, false, false, true, false, false] rfl rfl (any_of HT_.out (by kernel_rfl)) (fun _ _ _ h => h) (Or.inl ⟨by rfl, ?_⟩) ?_ ?_
     rotate_left
     ·
      intro w'
      go_simp
      with_reducible rfl
     rotate_left
     ·
      simp only [Act.put, List.setIfInBounds_toArray, List.set_cons_zero, List.set_cons_succ, i64_w, i32_w]
      rfl
     refine pure_ (i := 6) (N := some 27) (v := ?_) (a' := ?_) #[true, true, true, true, true, true, true, false, true, false, false] rfl rfl (any_of HT_.out (by kernel_rfl)) (fun _ _ _ h => h) (Or.inl ⟨by rfl, ?_⟩) ?_ ?_
     rotate_left
     ·
      intro w'
      go_simp
      with_reducible rfl
     rotate_left
     ·
      simp only [Act.put, List.setIfInBounds_toArray, List.set_cons_zero, List.set_cons_succ, i64_w, i32_w]
      rfl
     refine pure_ (i := 7) (N := some 28) (v := ?_) (a' := ?_) #[true, true, true, true, true, true, true, true, true, false, false] rfl rfl (any_of HT_.out (by kernel_rfl)) (fun _ _ _ h => h) (Or.inl ⟨by rfl, ?_⟩) ?_ ?_
     rotate_left
     ·
      intro w'
      go_simp
      with_reducible rfl
     rotate_left
     ·
      simp only [Act.put, List.setIfInBounds_toArray, List.set_cons_zero, List.set_cons_succ, i64_w, i32_w]
      rfl
     exact norm_ (by simp only [putAll, Act.put, List.setIfInBounds_toArray, List.set_cons_zero, List.set_cons_succ]) (hCont (.slice Ao26 t199.length co26, v209, gb212) _ ⟨hHeld, (by (with_reducible repeat (first | apply Kd.R_alloc | apply Kd.R_drewN | apply Kd.R_drew)); exact Kd.R_mono HO201.out (fun _ hk => hk.2)), (by (with_reducible repeat (first | apply Kd.R_alloc | apply Kd.R_drewN | apply Kd.R_drew)); exact Kd.R_mono HO210.out (fun _ hk => hk.2)), (B_ BK194.out), (B_ BK195.out), (B_ BK212.out), GW212.out, GE212.out, NB194_212.out, NB212_194.out, NB195_212.out, NB212_195.out, (L_ HB.out GE194.out GE195.out GE212.out)⟩)
   ·
    skip
    refine box_step ?hg (N := 6) ?hd (cs := #[.int .i64 0, .int .i64 0, .slice none 0 0]) (t := 35) ?hr ?_; (case hd => rfl); (case hg => rfl); (case hr => first | (go_simp; done) | (go_simp; rfl))
    intro gb212 hg w23 hbox hb
    have n0_ := bb_ BK194 hb; have n1_ := bb_ BK195 hb; have n2_ := a_ (below_step (L_ HB.out GE194.out GE195.out GE195.out) hb); have n3_ := a_ (hbox); have n4_ := a_ ((by rw [hg]; exact (below_size (L_ HB.out GE194.out GE195.out GE195.out)) : w.heap.size ≤ gb212)); have n5_ := a_ ((by rw [hg]; exact (below_size (L_ HB.out GE194.out GE195.out GE195.out)) : w.heap.size ≤ gb212)); have n6_ := a_ ((by rw [hg]; exact Nat.ne_of_lt (blk_lt (B_ BK194.out)) : gb194 ≠ gb212)); have n7_ := a_ ((by rw [hg]; exact Nat.ne_of_gt (blk_lt (B_ BK194.out)) : gb212 ≠ gb194)); have n8_ := a_ ((by rw [hg]; exact Nat.ne_of_lt (blk_lt (B_ BK195.out)) : gb195 ≠ gb212)); have n9_ := a_ ((by rw [hg]; exact Nat.ne_of_gt (blk_lt (B_ BK195.out)) : gb212 ≠ gb195)); clear BK194; clear BK195; clear HB; have BK194 := n0_; have BK195 := n1_; have HB := n2_; have BK212 := n3_; have GW212 := n4_; have GE212 := n5_; have NB194_212 := n6_; have NB212_194 := n7_; have NB195_212 := n8_; have NB212_195 := n9_; clear n0_ n1_ n2_ n3_ n4_ n5_ n6_ n7_ n8_ n9_; clear hb hbox hg
    refine hK.out _ _ ⟨c_ BK194.out 0, c_ BK194.out 1, c_ BK194.out 2, c_ BK195.out 0, c_ BK195.out 1, c_ BK195.out 2, c_ BK195.out 3⟩ (fun hHeld => ?_)
    clear hK K
    refine norm_ (a' := ?_) ?_ ?_
    rotate_left
    ·
     show Act.put _ (some 6) _ = _
     simp only [Act.put, List.setIfInBounds_toArray, List.set_cons_zero, List.set_cons_succ, i64_w, i32_w]
     rfl
    refine one_ (i := 1) (N := some 23) #[true, true, true, false, false, false, false, false, true, false, false] rfl rfl (one_of HT_.out (by kernel_rfl)) (by decide) (fun K hK => ?_)
    refine goes_ Try.func22 (by kernel_rfl) rfl #[.agg #[.int .i64 a0_0, .int .i64 a0_1, .slice A0_2 l0_2.length c0_2]] (by rfl) rfl rfl (by (try simp only [m1_, m2_, m3_]); first | done | rfl) ?_
    with_reducible refine (laws_toLeague.calls k a0_0 a0_1 _ _ l0_2 t197 t198 t199 _ ?side1 ?side2 A10.out).mono ?_
    (case side1 => repeat (first | exact (Kd.C_below HR0_2.out HB.out) | (with_reducible refine Kd.C_alloc ?_ _) | (with_reducible refine Kd.C_drewN ?_ _) | (with_reducible refine Kd.C_drew ?_)))
    (case side2 => exact HC0_2.out)
    rintro e w24 ⟨v200, rfl, ho0, hb⟩
    refine ⟨_, rfl, ?_⟩
    have n0_ := a_ (Kd.R_lower ho0 (below_size (L_ HB.out GE194.out GE195.out GE212.out))); have n1_ := bb_ BK194 hb; have n2_ := bb_ BK195 hb; have n3_ := bb_ BK212 hb; have n4_ := a_ (below_step (L_ HB.out GE194.out GE195.out GE212.out) hb); clear BK194; clear BK195; clear BK212; clear HB; have HO201 := n0_; have BK194 := n1_; have BK195 := n2_; have BK212 := n3_; have HB := n4_; clear n0_ n1_ n2_ n3_ n4_
    (try clear hb)
    (try clear hb2)
    (try clear hk)
    (try clear hi)
    (try clear ho0)
    refine hK.out _ _ ⟨c_ BK194.out 0, c_ BK194.out 1, c_ BK194.out 2, c_ BK195.out 0, c_ BK195.out 1, c_ BK195.out 2, c_ BK195.out 3⟩ (fun hHeld => ?_)
    clear hK K
    refine norm_ (a' := ?_) ?_ ?_
    rotate_left
    ·
     show Act.put _ (some 23) _ = _
     simp only [Act.put, List.setIfInBounds_toArray, List.set_cons_zero, List.set_cons_succ, i64_w, i32_w]
     rfl
    refine one_ (i := 3) (N := some 25) #[true, true, true, true, false, false, false, false, true, false, false] rfl rfl (one_of HT_.out (by kernel_rfl)) (by decide) (fun K hK => ?_)
    refine goes_ Try.func32 (by kernel_rfl) rfl #[.agg #[.int .i64 a1_0, .int .i64 a1_1, .int .i64 a1_2, .int .i64 a1_3]] (by rfl) rfl rfl (by (try simp only [m1_, m2_, m3_]); first | done | rfl) ?_
    with_reducible refine (laws_toResult.calls a1_0 a1_1 a1_2 a1_3 t202 t203 t204 t205 _ A11.out).mono ?_
    rintro e w25 ⟨rfl, hb⟩
    refine ⟨_, rfl, ?_⟩
    have n0_ := a_ (Kd.R_below (R_ HO201.out) hb); have n1_ := bb_ BK194 hb; have n2_ := bb_ BK195 hb; have n3_ := bb_ BK212 hb; have n4_ := a_ (below_step (L_ HB.out GE194.out GE195.out GE212.out) hb); clear HO201; clear BK194; clear BK195; clear BK212; clear HB; have HO201 := n0_; have BK194 := n1_; have BK195 := n2_; have BK212 := n3_; have HB := n4_; clear n0_ n1_ n2_ n3_ n4_
    (try clear hb)
    (try clear hb2)
    (try clear hk)
    (try clear hi)
    obtain ⟨Ao26, co26, eo26⟩ := Kd.R_slice HO201.out
    (first | subst eo26 | (injection eo26 with f1_ f2_ f3_; have f4_ := f1_.symm; have f5_ := f3_.symm; clear f1_ f2_ f3_; subst f4_; subst f5_))
    refine hK.out _ _ ⟨c_ BK194.out 0, c_ BK194.out 1, c_ BK194.out 2, c_ BK195.out 0, c_ BK195.out 1, c_ BK195.out 2, c_ BK195.out 3⟩ (fun hHeld => ?_)
    clear hK K
    refine norm_ (a' := ?_) ?_ ?_
    rotate_left
    ·
     show Act.put _ (some 25) _ = _
     simp only [Act.put, List.setIfInBounds_toArray, List.set_cons_zero, List.set_cons_succ, i64_w, i32_w]
     rfl
    refine one_ (i := 4) (N := some 26) #[true, true, true, true, true, false, false, false, true, false, false] rfl rfl (one_of HT_.out (by kernel_rfl)) (by decide) (fun K hK => ?_)
    refine goes_ Try.func31 (by kernel_rfl) rfl #[.agg #[.int .i64 t197, .int .i64 t198, .slice Ao26 t199.length co26], .agg #[.int .i64 t202, .int .i64 t203, .int .i64 t204, .int .i64 t205]] (by rfl) rfl rfl (by (try simp only [m1_, m2_, m3_]); first | done | rfl) ?_
    with_reducible refine (spec_AddResult.calls k t197 t198 _ _ t199 t202 t203 t204 t205 t206 t207 t208 t211 _ ?side1 ?side2 A12.out).mono ?_
    (case side1 => repeat (first | exact (Kd.R_reads' HO201.out).2.2 | (with_reducible refine Kd.C_alloc ?_ _) | (with_reducible refine Kd.C_drewN ?_ _) | (with_reducible refine Kd.C_drew ?_)))
    (case side2 => exact (Kd.R_reads' HO201.out).2.1)
    rintro e w27 ⟨v209, rfl, ho0, hb⟩
    refine ⟨_, rfl, ?_⟩
    have n0_ := a_ (Kd.R_elder' (R_ HO201.out) (Kd.R_base ho0) hb); have n1_ := a_ (Kd.R_lower (Kd.R_new' ho0 (Kd.R_lt (R_ HO201.out))) (below_size (L_ HB.out GE194.out GE195.out GE212.out))); have n2_ := bb_ BK194 hb; have n3_ := bb_ BK195 hb; have n4_ := bb_ BK212 hb; have n5_ := a_ (below_step (L_ HB.out GE194.out GE195.out GE212.out) hb); clear HO201; clear BK194; clear BK195; clear BK212; clear HB; have HO201 := n0_; have HO210 := n1_; have BK194 := n2_; have BK195 := n3_; have BK212 := n4_; have HB := n5_; clear n0_ n1_ n2_ n3_ n4_ n5_
    (try clear hb)
    (try clear hb2)
    (try clear hk)
    (try clear hi)
    (try clear ho0)
    refine hK.out _ _ ⟨c_ BK194.out 0, c_ BK194.out 1, c_ BK194.out 2, c_ BK195.out 0, c_ BK195.out 1, c_ BK195.out 2, c_ BK195.out 3⟩ (fun hHeld => ?_)
    clear hK K
    refine norm_ (a' := ?_) ?_ ?_
    rotate_left
    ·
     show Act.put _ (some 26) _ = _
     simp only [Act.put, List.setIfInBounds_toArray, List.set_cons_zero, List.set_cons_succ, i64_w, i32_w]
     rfl
    refine pure_ (i := 5) (N := some 21) (v := ?_) (a' := ?_) #[true, true, true, true, true, true, false, false, true, false, false] rfl rfl (any_of HT_.out (by kernel_rfl)) (fun _ _ _ h => h) (Or.inl ⟨by rfl, ?_⟩) ?_ ?_
    rotate_left
    ·
     intro w'
     go_simp
     with_reducible rfl
    rotate_left
    ·
     simp only [Act.put, List.setIfInBounds_toArray, List.set_cons_zero, List.set_cons_succ, i64_w, i32_w]
     rfl
    refine pure_ (i := 6) (N := some 27) (v := ?_) (a' := ?_) #[true, true, true, true, true, true, true, false, true, false, false] rfl rfl (any_of HT_.out (by kernel_rfl)) (fun _ _ _ h => h) (Or.inl ⟨by rfl, ?_⟩) ?_ ?_
    rotate_left
    ·
     intro w'
     go_simp
     with_reducible rfl
    rotate_left
    ·
     simp only [Act.put, List.setIfInBounds_toArray, List.set_cons_zero, List.set_cons_succ, i64_w, i32_w]
     rfl
    refine pure_ (i := 7) (N := some 28) (v := ?_) (a' := ?_) #[true, true, true, true, true, true, true, true, true, false, false] rfl rfl (any_of HT_.out (by kernel_rfl)) (fun _ _ _ h => h) (Or.inl ⟨by rfl, ?_⟩) ?_ ?_
    rotate_left
    ·
     intro w'
     go_simp
     with_reducible rfl
    rotate_left
    ·
     simp only [Act.put, List.setIfInBounds_toArray, List.set_cons_zero, List.set_cons_succ, i64_w, i32_w]
     rfl
    exact norm_ (by simp only [putAll, Act.put, List.setIfInBounds_toArray, List.set_cons_zero, List.set_cons_succ]) (hCont (.slice Ao26 t199.length co26, v209, gb212) _ ⟨hHeld, (by (with_reducible repeat (first | apply Kd.R_alloc | apply Kd.R_drewN | apply Kd.R_drew)); exact Kd.R_mono HO201.out (fun _ hk => hk.2)), (by (with_reducible repeat (first | apply Kd.R_alloc | apply Kd.R_drewN | apply Kd.R_drew)); exact Kd.R_mono HO210.out (fun _ hk => hk.2)), (B_ BK194.out), (B_ BK195.out), (B_ BK212.out), GW212.out, GE212.out, NB194_212.out, NB212_194.out, NB195_212.out, NB212_195.out, (L_ HB.out GE194.out GE195.out GE212.out)⟩)
  rintro ⟨v200, v209, gb212⟩ w28 ⟨hS_, h0_, h1_, h2_, h3_, h4_, h5_, h6_, h7_, h8_, h9_, h10_, h11_⟩; have n0_ : Aside0 (Kd.R k51 51 w28 w.heap.size (fun k_ => some k_ ≠ (v209 : Value).ownBlock) v200 t199) := ⟨h0_⟩; have n1_ : Aside0 (Kd.R k51 51 w28 w.heap.size (fun k_ => some k_ ≠ (v200 : Value).ownBlock) v209 t208) := ⟨h1_⟩; have n2_ : Aside0 (w28.heap[gb194]? = some (.cells #[.int .i64 a0_0, .int .i64 a0_1, .slice A0_2 l0_2.length c0_2] 30 (0, 0))) := ⟨h2_⟩; have n3_ : Aside0 (w28.heap[gb195]? = some (.cells #[.int .i64 a1_0, .int .i64 a1_1, .int .i64 a1_2, .int .i64 a1_3] 48 (0, 0))) := ⟨h3_⟩; have n4_ : Aside0 (w28.heap[gb212]? = some (.cells #[.int .i64 0, .int .i64 0, .slice none 0 0] 35 (0, 0))) := ⟨h4_⟩; have n5_ : Aside0 (w.heap.size ≤ gb212) := ⟨h5_⟩; have n6_ : Aside0 (w.heap.size ≤ gb212) := ⟨h6_⟩; have n7_ : Aside0 (gb194 ≠ gb212) := ⟨h7_⟩; have n8_ : Aside0 (gb212 ≠ gb194) := ⟨h8_⟩; have n9_ : Aside0 (gb195 ≠ gb212) := ⟨h9_⟩; have n10_ : Aside0 (gb212 ≠ gb195) := ⟨h10_⟩; have n11_ : Aside0 (Below w.heap.size w w28) := ⟨h11_⟩; clear BK194; clear BK195; clear HB; clear h0_ h1_ h2_ h3_ h4_ h5_ h6_ h7_ h8_ h9_ h10_ h11_; have HO201 := n0_; have HO210 := n1_; have BK194 := n2_; have BK195 := n3_; have BK212 := n4_; have GW212 := n5_; have GE212 := n6_; have NB194_212 := n7_; have NB212_194 := n8_; have NB195_212 := n9_; have NB212_195 := n10_; have HB := n11_; clear n0_ n1_ n2_ n3_ n4_ n5_ n6_ n7_ n8_ n9_ n10_ n11_; have hHeld : w28.cell? ⟨gb194, 0, none⟩ = some (.int .i64 a0_0) ∧ w28.cell? ⟨gb194, 1, none⟩ = some (.int .i64 a0_1) ∧ w28.cell? ⟨gb194, 2, none⟩ = some (.slice A0_2 l0_2.length c0_2) ∧ w28.cell? ⟨gb195, 0, none⟩ = some (.int .i64 a1_0) ∧ w28.cell? ⟨gb195, 1, none⟩ = some (.int .i64 a1_1) ∧ w28.cell? ⟨gb195, 2, none⟩ = some (.int .i64 a1_2) ∧ w28.cell? ⟨gb195, 3, none⟩ = some (.int .i64 a1_3) := hS_; obtain ⟨Ao31, co31, eo31⟩ := Kd.R_slice HO210.out
  (first | subst eo31 | (injection eo31 with f1_ f2_ f3_; have f4_ := f1_.symm; have f5_ := f3_.symm; clear f1_ f2_ f3_; subst f4_; subst f5_))
  refine norm_ (a' := ?_) ?_ ?_
  rotate_left
  ·
   simp only [putAll, Act.put, List.setIfInBounds_toArray, List.set_cons_zero, List.set_cons_succ]
   rfl
  refine one_ (i := 9) (N := none) #[true, true, true, true, true, true, true, true, true, true, false] rfl rfl (one_of HT_.out (by kernel_rfl)) (by decide) (fun K hK => ?_)
  have hs29 : w28.cell? ⟨gb212, 0, none⟩ = some (.int .i64 0) := c_ BK212.out 0; have hfs29 := blk_frozen BK212.out 0; have hns29_0 := NB194_212.out; have hns29_1 := NB195_212.out; have hms29_0 := NB212_194.out; have hms29_1 := NB212_195.out; have hs30 : w28.cell? ⟨gb212, 1, none⟩ = some (.int .i64 0) := c_ BK212.out 1; have hfs30 := blk_frozen BK212.out 1; have hns30_0 := NB194_212.out; have hns30_1 := NB195_212.out; have hms30_0 := NB212_194.out; have hms30_1 := NB212_195.out; have hs32 : w28.cell? ⟨gb212, 2, none⟩ = some (.slice none 0 0) := c_ BK212.out 2; have hfs32 := blk_frozen BK212.out 2; have hns32_0 := NB194_212.out; have hns32_1 := NB195_212.out; have hms32_0 := NB212_194.out; have hms32_1 := NB212_195.out
  refine skip_ (w1 := ?_) (by rfl) rfl ?_ ?_
  rotate_left
  ·
   go_simp
   rfl
  refine hK.out _ _ ⟨((cell_far (p := ⟨gb212, _, none⟩) NB194_212.out _).trans (((cell_far (p := ⟨gb212, _, none⟩) NB194_212.out _).trans (((cell_far (p := ⟨gb212, _, none⟩) NB194_212.out _).trans (hHeld.1)))))), ((cell_far (p := ⟨gb212, _, none⟩) NB194_212.out _).trans (((cell_far (p := ⟨gb212, _, none⟩) NB194_212.out _).trans (((cell_far (p := ⟨gb212, _, none⟩) NB194_212.out _).trans (hHeld.2.1)))))), ((cell_far (p := ⟨gb212, _, none⟩) NB194_212.out _).trans (((cell_far (p := ⟨gb212, _, none⟩) NB194_212.out _).trans (((cell_far (p := ⟨gb212, _, none⟩) NB194_212.out _).trans (hHeld.2.2.1)))))), ((cell_far (p := ⟨gb212, _, none⟩) NB195_212.out _).trans (((cell_far (p := ⟨gb212, _, none⟩) NB195_212.out _).trans (((cell_far (p := ⟨gb212, _, none⟩) NB195_212.out _).trans (hHeld.2.2.2.1)))))), ((cell_far (p := ⟨gb212, _, none⟩) NB195_212.out _).trans (((cell_far (p := ⟨gb212, _, none⟩) NB195_212.out _).trans (((cell_far (p := ⟨gb212, _, none⟩) NB195_212.out _).trans (hHeld.2.2.2.2.1)))))), ((cell_far (p := ⟨gb212, _, none⟩) NB195_212.out _).trans (((cell_far (p := ⟨gb212, _, none⟩) NB195_212.out _).trans (((cell_far (p := ⟨gb212, _, none⟩) NB195_212.out _).trans (hHeld.2.2.2.2.2.1)))))), ((cell_far (p := ⟨gb212, _, none⟩) NB195_212.out _).trans (((cell_far (p := ⟨gb212, _, none⟩) NB195_212.out _).trans (((cell_far (p := ⟨gb212, _, none⟩) NB195_212.out _).trans (hHeld.2.2.2.2.2.2))))))⟩ (fun hHeld => ?_)
  clear hK K
  refine pure_ (i := 10) (N := some 7) (v := ?_) (a' := ?_) #[true, true, true, true, true, true, true, true, true, true, true] rfl rfl (any_of HT_.out (by kernel_rfl)) (fun _ _ _ h => h) (Or.inl ⟨by rfl, ?_⟩) ?_ ?_
  rotate_left
  ·
   intro w'
   go_simp
   with_reducible rfl
  rotate_left
  ·
   simp only [Act.put, List.setIfInBounds_toArray, List.set_cons_zero, List.set_cons_succ, i64_w, i32_w]
   rfl
  refine done_ (done_of HT_.out (by kernel_rfl)) ?_
  have hnb33 := NB194_212.out; have hnc33 := NB212_194.out; have hcz34_0 : w28.cell? ⟨gb194, 0, none⟩ = some (.int .i64 a0_0) := c_ BK194.out 0; have hcz34_1 : w28.cell? ⟨gb194, 1, none⟩ = some (.int .i64 a0_1) := c_ BK194.out 1; have hcz34_2 : w28.cell? ⟨gb194, 2, none⟩ = some (.slice A0_2 l0_2.length c0_2) := c_ BK194.out 2; have hfz34_0 := blk_frozen BK194.out 0; have hfz34_1 := blk_frozen BK194.out 1; have hfz34_2 := blk_frozen BK194.out 2
  try go_wp2_with (first | ((with_reducible refine gate_callee (f := 22) rfl ?_); refine goesL_ (some 30) rfl rfl Try.func22 (by kernel_rfl) rfl #[.agg #[.int .i64 a0_0, .int .i64 a0_1, .slice A0_2 l0_2.length c0_2]] rfl (by (try simp only [m1_, m2_, m3_]); first | done | rfl) ?_; (with_reducible refine (laws_toLeague.calls k a0_0 a0_1 _ _ l0_2 t213 t214 t215 _ ?side1 ?side2 A13.out).mono ?_); (case side1 => exact Kd.C_below HR0_2.out (L_ HB.out GE194.out GE195.out GE212.out)); (case side2 => exact HC0_2.out); rintro e w35 ⟨v216, rfl, ho0, hb⟩; refine ⟨_, rfl, ?_⟩; have n0_ := a_ (Kd.R_elder' (by (with_reducible repeat (first | apply Kd.R_alloc | apply Kd.R_drewN | apply Kd.R_drew)); exact (Kd.R_mono (Kd.R_far (p := ⟨gb212, 2, none⟩) (Kd.R_far (p := ⟨gb212, 1, none⟩) (Kd.R_far (p := ⟨gb212, 0, none⟩) (Kd.R_types HO201.out BK212.out (by decide)) (fun _ hk => hk.2) (.int .i64 t206)) (fun _ hk => hk.2) (.int .i64 t207)) (fun _ hk => hk.2) (.slice Ao31 t208.length co31)) (fun _ h_ => h_.1))) (Kd.R_base ho0) hb); have n1_ := a_ (Kd.R_elder' (by (with_reducible repeat (first | apply Kd.R_alloc | apply Kd.R_drewN | apply Kd.R_drew)); exact (Kd.R_mono (Kd.R_far (p := ⟨gb212, 2, none⟩) (Kd.R_far (p := ⟨gb212, 1, none⟩) (Kd.R_far (p := ⟨gb212, 0, none⟩) (Kd.R_types HO210.out BK212.out (by decide)) (fun _ hk => hk.2) (.int .i64 t206)) (fun _ hk => hk.2) (.int .i64 t207)) (fun _ hk => hk.2) (.slice Ao31 t208.length co31)) (fun _ h_ => h_.1))) (Kd.R_base ho0) hb); have n2_ := a_ (Kd.R_lower (Kd.R_new' (Kd.R_new' ho0 (Kd.R_lt (by (with_reducible repeat (first | apply Kd.R_alloc | apply Kd.R_drewN | apply Kd.R_drew)); exact (Kd.R_mono (Kd.R_far (p := ⟨gb212, 2, none⟩) (Kd.R_far (p := ⟨gb212, 1, none⟩) (Kd.R_far (p := ⟨gb212, 0, none⟩) (Kd.R_types HO201.out BK212.out (by decide)) (fun _ hk => hk.2) (.int .i64 t206)) (fun _ hk => hk.2) (.int .i64 t207)) (fun _ hk => hk.2) (.slice Ao31 t208.length co31)) (fun _ h_ => h_.1))))) (Kd.R_lt (by (with_reducible repeat (first | apply Kd.R_alloc | apply Kd.R_drewN | apply Kd.R_drew)); exact (Kd.R_mono (Kd.R_far (p := ⟨gb212, 2, none⟩) (Kd.R_far (p := ⟨gb212, 1, none⟩) (Kd.R_far (p := ⟨gb212, 0, none⟩) (Kd.R_types HO210.out BK212.out (by decide)) (fun _ hk => hk.2) (.int .i64 t206)) (fun _ hk => hk.2) (.int .i64 t207)) (fun _ hk => hk.2) (.slice Ao31 t208.length co31)) (fun _ h_ => h_.1))))) (below_size (L_ HB.out GE194.out GE195.out GE212.out))); have n3_ := a_ (blk_below (g := gb194) (o := .cells #[.int .i64 a0_0, .int .i64 a0_1, .slice A0_2 l0_2.length c0_2] 30 (0, 0)) (by (with_reducible repeat (first | refine blk_drewN ?_ _ | refine blk_drew ?_ | refine blk_alloc ?_ _)); refine blk_far ?_ NB194_212.out _; refine blk_far ?_ NB194_212.out _; refine blk_far ?_ NB194_212.out _; exact B_ BK194.out) hb); have n4_ := a_ (blk_below (g := gb195) (o := .cells #[.int .i64 a1_0, .int .i64 a1_1, .int .i64 a1_2, .int .i64 a1_3] 48 (0, 0)) (by (with_reducible repeat (first | refine blk_drewN ?_ _ | refine blk_drew ?_ | refine blk_alloc ?_ _)); refine blk_far ?_ NB195_212.out _; refine blk_far ?_ NB195_212.out _; refine blk_far ?_ NB195_212.out _; exact B_ BK195.out) hb); have n5_ := a_ (blk_below (g := gb212) (o := .cells #[.int .i64 t206, .int .i64 t207, .slice Ao31 t208.length co31] 35 (0, 0)) (by (with_reducible repeat (first | refine blk_drewN ?_ _ | refine blk_drew ?_ | refine blk_alloc ?_ _)); refine blk_put (cs := #[.int .i64 t206, .int .i64 t207, .slice none 0 0]) ?_ 2 _ rfl; (with_reducible repeat (first | refine blk_drewN ?_ _ | refine blk_drew ?_ | refine blk_alloc ?_ _)); refine blk_put (cs := #[.int .i64 t206, .int .i64 0, .slice none 0 0]) ?_ 1 _ rfl; (with_reducible repeat (first | refine blk_drewN ?_ _ | refine blk_drew ?_ | refine blk_alloc ?_ _)); refine blk_put (cs := #[.int .i64 0, .int .i64 0, .slice none 0 0]) ?_ 0 _ rfl; exact B_ BK212.out) hb); have n6_ := a_ (below_step (L_ HB.out GE194.out GE195.out GE212.out) hb); clear HO201; clear HO210; clear BK194; clear BK195; clear BK212; clear HB; have HO201 := n0_; have HO210 := n1_; have HO217 := n2_; have BK194 := n3_; have BK195 := n4_; have BK212 := n5_; have HB := n6_; clear n0_ n1_ n2_ n3_ n4_ n5_ n6_; (try clear hb); (try clear hb2); (try clear hk); (try clear hi); (try clear ho0)) | ((with_reducible refine gate_dst (N := 8) rfl ?_); refine box_event ?hg (N := 8) ?hd (cs := #[.int .i64 0, .int .i64 0, .slice none 0 0]) (t := 35) ?hr ?_; (case hd => rfl); (case hg => rfl); (case hr => first | (go_simp; done) | (go_simp; rfl)); intro gb218 hg w36 hbox hb; have n0_ := a_ (Kd.R_below (R_ HO201.out) hb); have n1_ := a_ (Kd.R_below (R_ HO210.out) hb); have n2_ := a_ (Kd.R_below (R_ HO217.out) hb); have n3_ := bb_ BK194 hb; have n4_ := bb_ BK195 hb; have n5_ := bb_ BK212 hb; have n6_ := a_ (below_step (L_ HB.out GE194.out GE195.out GE212.out) hb); have n7_ := a_ (hbox); have n8_ := a_ ((by rw [hg]; exact (below_size (L_ HB.out GE194.out GE195.out GE212.out)) : w.heap.size ≤ gb218)); have n9_ := a_ ((by rw [hg]; exact (below_size (L_ HB.out GE194.out GE195.out GE212.out)) : w.heap.size ≤ gb218)); have n10_ := a_ ((by rw [hg]; exact Nat.ne_of_lt (blk_lt (B_ BK194.out)) : gb194 ≠ gb218)); have n11_ := a_ ((by rw [hg]; exact Nat.ne_of_gt (blk_lt (B_ BK194.out)) : gb218 ≠ gb194)); have n12_ := a_ ((by rw [hg]; exact Nat.ne_of_lt (blk_lt (B_ BK195.out)) : gb195 ≠ gb218)); have n13_ := a_ ((by rw [hg]; exact Nat.ne_of_gt (blk_lt (B_ BK195.out)) : gb218 ≠ gb195)); have n14_ := a_ ((by rw [hg]; exact Nat.ne_of_lt (blk_lt (B_ BK212.out)) : gb212 ≠ gb218)); have n15_ := a_ ((by rw [hg]; exact Nat.ne_of_gt (blk_lt (B_ BK212.out)) : gb218 ≠ gb212)); clear HO201; clear HO210; clear HO217; clear BK194; clear BK195; clear BK212; clear HB; have HO201 := n0_; have HO210 := n1_; have HO217 := n2_; have BK194 := n3_; have BK195 := n4_; have BK212 := n5_; have HB := n6_; have BK218 := n7_; have GW218 := n8_; have GE218 := n9_; have NB194_218 := n10_; have NB218_194 := n11_; have NB195_218 := n12_; have NB218_195 := n13_; have NB212_218 := n14_; have NB218_212 := n15_; clear n0_ n1_ n2_ n3_ n4_ n5_ n6_ n7_ n8_ n9_ n10_ n11_ n12_ n13_ n14_ n15_; clear hb hbox hg; have hnb37 := NB218_194.out; have hnc37 := NB194_218.out; have hnb38 := NB218_195.out; have hnc38 := NB195_218.out; have hnb39 := NB218_212.out; have hnc39 := NB212_218.out; have hcz40_0 : w36.cell? ⟨gb218, 0, none⟩ = some (.int .i64 0) := c_ BK218.out 0; have hcz40_1 : w36.cell? ⟨gb218, 1, none⟩ = some (.int .i64 0) := c_ BK218.out 1; have hcz40_2 : w36.cell? ⟨gb218, 2, none⟩ = some (.slice none 0 0) := c_ BK218.out 2; have hfz40_0 := blk_frozen BK218.out 0; have hfz40_1 := blk_frozen BK218.out 1; have hfz40_2 := blk_frozen BK218.out 2; obtain ⟨Ao41, co41, eo41⟩ := Kd.R_slice HO217.out; subst eo41))
  have n0_ : Aside0 (Kd.R k51 51 (((w36.setCell ⟨gb218, 0, none⟩ (.int .i64 t213)).setCell ⟨gb218, 1, none⟩ (.int .i64 t214)).setCell ⟨gb218, 2, none⟩ (.slice Ao41 t215.length co41)) w.heap.size (fun k_ => some k_ ≠ (.slice Ao31 t208.length co31 : Value).ownBlock ∧ some k_ ≠ (.slice Ao41 t215.length co41 : Value).ownBlock) v200 t199) := ⟨by (with_reducible repeat (first | apply Kd.R_alloc | apply Kd.R_drewN | apply Kd.R_drew)); exact Kd.R_mono (Kd.R_far (p := ⟨gb218, 2, none⟩) (Kd.R_far (p := ⟨gb218, 1, none⟩) (Kd.R_far (p := ⟨gb218, 0, none⟩) (Kd.R_types HO201.out BK218.out (by decide)) (fun _ hk => hk.2) (.int .i64 t213)) (fun _ hk => hk.2) (.int .i64 t214)) (fun _ hk => hk.2) (.slice Ao41 t215.length co41)) (fun _ hk => ⟨hk.1.1, hk.1.2⟩)⟩; have n1_ : Aside0 (Kd.R k51 51 (((w36.setCell ⟨gb218, 0, none⟩ (.int .i64 t213)).setCell ⟨gb218, 1, none⟩ (.int .i64 t214)).setCell ⟨gb218, 2, none⟩ (.slice Ao41 t215.length co41)) w.heap.size (fun k_ => some k_ ≠ (v200 : Value).ownBlock ∧ some k_ ≠ (.slice Ao41 t215.length co41 : Value).ownBlock) (.slice Ao31 t208.length co31) t208) := ⟨by (with_reducible repeat (first | apply Kd.R_alloc | apply Kd.R_drewN | apply Kd.R_drew)); exact Kd.R_mono (Kd.R_far (p := ⟨gb218, 2, none⟩) (Kd.R_far (p := ⟨gb218, 1, none⟩) (Kd.R_far (p := ⟨gb218, 0, none⟩) (Kd.R_types HO210.out BK218.out (by decide)) (fun _ hk => hk.2) (.int .i64 t213)) (fun _ hk => hk.2) (.int .i64 t214)) (fun _ hk => hk.2) (.slice Ao41 t215.length co41)) (fun _ hk => ⟨hk.1.1, hk.1.2⟩)⟩; have n2_ : Aside0 (Kd.R k51 51 (((w36.setCell ⟨gb218, 0, none⟩ (.int .i64 t213)).setCell ⟨gb218, 1, none⟩ (.int .i64 t214)).setCell ⟨gb218, 2, none⟩ (.slice Ao41 t215.length co41)) w.heap.size (fun k_ => some k_ ≠ (v200 : Value).ownBlock ∧ some k_ ≠ (.slice Ao31 t208.length co31 : Value).ownBlock) (.slice Ao41 t215.length co41) t215) := ⟨by (with_reducible repeat (first | apply Kd.R_alloc | apply Kd.R_drewN | apply Kd.R_drew)); exact Kd.R_mono (Kd.R_far (p := ⟨gb218, 2, none⟩) (Kd.R_far (p := ⟨gb218, 1, none⟩) (Kd.R_far (p := ⟨gb218, 0, none⟩) (Kd.R_types HO217.out BK218.out (by decide)) (fun _ hk => hk.2) (.int .i64 t213)) (fun _ hk => hk.2) (.int .i64 t214)) (fun _ hk => hk.2) (.slice Ao41 t215.length co41)) (fun _ hk => ⟨hk.1.1.2, hk.1.2⟩)⟩; have n3_ : Aside0 ((((w36.setCell ⟨gb218, 0, none⟩ (.int .i64 t213)).setCell ⟨gb218, 1, none⟩ (.int .i64 t214)).setCell ⟨gb218, 2, none⟩ (.slice Ao41 t215.length co41)).heap[gb194]? = some (.cells #[.int .i64 a0_0, .int .i64 a0_1, .slice A0_2 l0_2.length c0_2] 30 (0, 0))) := ⟨by (with_reducible repeat (first | refine blk_drewN ?_ _ | refine blk_drew ?_ | refine blk_alloc ?_ _)); refine blk_far ?_ NB194_218.out _; refine blk_far ?_ NB194_218.out _; refine blk_far ?_ NB194_218.out _; exact B_ BK194.out⟩; have n4_ : Aside0 ((((w36.setCell ⟨gb218, 0, none⟩ (.int .i64 t213)).setCell ⟨gb218, 1, none⟩ (.int .i64 t214)).setCell ⟨gb218, 2, none⟩ (.slice Ao41 t215.length co41)).heap[gb195]? = some (.cells #[.int .i64 a1_0, .int .i64 a1_1, .int .i64 a1_2, .int .i64 a1_3] 48 (0, 0))) := ⟨by (with_reducible repeat (first | refine blk_drewN ?_ _ | refine blk_drew ?_ | refine blk_alloc ?_ _)); refine blk_far ?_ NB195_218.out _; refine blk_far ?_ NB195_218.out _; refine blk_far ?_ NB195_218.out _; exact B_ BK195.out⟩
  have n5_ : Aside0 ((((w36.setCell ⟨gb218, 0, none⟩ (.int .i64 t213)).setCell ⟨gb218, 1, none⟩ (.int .i64 t214)).setCell ⟨gb218, 2, none⟩ (.slice Ao41 t215.length co41)).heap[gb212]? = some (.cells #[.int .i64 t206, .int .i64 t207, .slice Ao31 t208.length co31] 35 (0, 0))) := ⟨by (with_reducible repeat (first | refine blk_drewN ?_ _ | refine blk_drew ?_ | refine blk_alloc ?_ _)); refine blk_far ?_ NB212_218.out _; refine blk_far ?_ NB212_218.out _; refine blk_far ?_ NB212_218.out _; exact B_ BK212.out⟩; have n6_ : Aside0 ((((w36.setCell ⟨gb218, 0, none⟩ (.int .i64 t213)).setCell ⟨gb218, 1, none⟩ (.int .i64 t214)).setCell ⟨gb218, 2, none⟩ (.slice Ao41 t215.length co41)).heap[gb218]? = some (.cells #[.int .i64 t213, .int .i64 t214, .slice Ao41 t215.length co41] 35 (0, 0))) := ⟨by (with_reducible repeat (first | refine blk_drewN ?_ _ | refine blk_drew ?_ | refine blk_alloc ?_ _)); refine blk_put (cs := #[.int .i64 t213, .int .i64 t214, .slice none 0 0]) ?_ 2 _ rfl; (with_reducible repeat (first | refine blk_drewN ?_ _ | refine blk_drew ?_ | refine blk_alloc ?_ _)); refine blk_put (cs := #[.int .i64 t213, .int .i64 0, .slice none 0 0]) ?_ 1 _ rfl; (with_reducible repeat (first | refine blk_drewN ?_ _ | refine blk_drew ?_ | refine blk_alloc ?_ _)); refine blk_put (cs := #[.int .i64 0, .int .i64 0, .slice none 0 0]) ?_ 0 _ rfl; exact B_ BK218.out⟩; have n7_ : Aside0 (Below w.heap.size w (((w36.setCell ⟨gb218, 0, none⟩ (.int .i64 t213)).setCell ⟨gb218, 1, none⟩ (.int .i64 t214)).setCell ⟨gb218, 2, none⟩ (.slice Ao41 t215.length co41))) := ⟨L6_ HB.out GE194.out GE195.out GE212.out GE218.out GE218.out GE218.out⟩
  (try clear HO201)
  (try clear HO210)
  (try clear HO217)
  (try clear BK194)
  (try clear BK195)
  (try clear BK212)
  (try clear BK218)
  (try clear HB)
  generalize (((w36.setCell ⟨gb218, 0, none⟩ (.int .i64 t213)).setCell ⟨gb218, 1, none⟩ (.int .i64 t214)).setCell ⟨gb218, 2, none⟩ (.slice Ao41 t215.length co41)) = w42 at n0_ n1_ n2_ n3_ n4_ n5_ n6_ n7_ ⊢; have HO201 := n0_; have HO210 := n1_; have HO217 := n2_; have BK194 := n3_; have BK195 := n4_; have BK212 := n5_; have BK218 := n6_; have HB := n7_; clear n0_ n1_ n2_ n3_ n4_ n5_ n6_ n7_; have n0_ := a_ (Kd.R_drew HO201.out); have n1_ := a_ (Kd.R_drew HO210.out); have n2_ := a_ (Kd.R_drew HO217.out); have n3_ := a_ (blk_drew BK194.out); have n4_ := a_ (blk_drew BK195.out); have n5_ := a_ (blk_drew BK212.out); have n6_ := a_ (blk_drew BK218.out); have n7_ := a_ (below_drew1 HB.out); clear HO201; clear HO210; clear HO217; clear BK194; clear BK195; clear BK212; clear BK218; clear HB; have HO201 := n0_; have HO210 := n1_; have HO217 := n2_; have BK194 := n3_; have BK195 := n4_; have BK212 := n5_; have BK218 := n6_; have HB := n7_; clear n0_ n1_ n2_ n3_ n4_ n5_ n6_ n7_
  refine start_ (n := 10) (S := fun w' => w'.cell? ⟨gb218, 0, none⟩ = some (.int .i64 t213) ∧ w'.cell? ⟨gb218, 1, none⟩ = some (.int .i64 t214) ∧ w'.cell? ⟨gb218, 2, none⟩ = some (.slice Ao41 t215.length co41) ∧ w'.cell? ⟨gb195, 0, none⟩ = some (.int .i64 a1_0) ∧ w'.cell? ⟨gb195, 1, none⟩ = some (.int .i64 a1_1) ∧ w'.cell? ⟨gb195, 2, none⟩ = some (.int .i64 a1_2) ∧ w'.cell? ⟨gb195, 3, none⟩ = some (.int .i64 a1_3)) (ds := []) #[false, false, false, false, false, false, false, false, false, false] (by kernel_rfl) rfl rfl ⟨c_ BK218.out 0, c_ BK218.out 1, c_ BK218.out 2, c_ BK195.out 0, c_ BK195.out 1, c_ BK195.out 2, c_ BK195.out 3⟩ (fun hHeld => ?_); refine with_tabW laws_FnExactAddResult.tab7 laws_FnExactAddResult.bits7 (fun HT_ HW_ => ?_)
  generalize w42.drew = w43 at HO201 HO210 HO217 BK194 BK195 BK212 BK218 HB hHeld ⊢
  refine take_ (i := 0) (N := some 32) (v := ?_) (a' := ?_) #[true, false, false, false, false, false, false, false, false, false] rfl rfl (take_ofW HT_.out HW_.out (by kernel_rfl)) (fun _ _ _ h => h) (Or.inl ⟨by rfl, ?_⟩) hHeld ?_ ?_
  rotate_left
  ·
   rintro w' ⟨s0, s1, s2, s3, s4, s5, s6⟩
   go_simp
   with_reducible rfl
  rotate_left
  ·
   simp only [Act.put, List.setIfInBounds_toArray, List.set_cons_zero, List.set_cons_succ, i64_w, i32_w]
   rfl
  refine take_ (i := 1) (N := some 33) (v := ?_) (a' := ?_) #[true, true, false, false, false, false, false, false, false, false] rfl rfl (take_ofW HT_.out HW_.out (by kernel_rfl)) (fun _ _ _ h => h) (Or.inl ⟨by rfl, ?_⟩) hHeld ?_ ?_
  rotate_left
  ·
   rintro w' ⟨s0, s1, s2, s3, s4, s5, s6⟩
   go_simp
   with_reducible rfl
  rotate_left
  ·
   simp only [Act.put, List.setIfInBounds_toArray, List.set_cons_zero, List.set_cons_succ, i64_w, i32_w]
   rfl
  refine join_ (σ := Value × Nat) 2 #[true, true, true, true, true, true, true, true, false, false] (fun s_ => [(34, .agg #[.int .i64 t219, .int .i64 t220, .int .i64 t221, .int .i64 t222]), (35, .tuple #[.agg #[.int .i64 t223, .int .i64 t224, s_.1], .bool t228]), (9, .pointer (some ⟨s_.2, 0, none⟩)), (31, .tuple #[.agg #[.int .i64 t223, .int .i64 t224, s_.1], .bool t228]), (36, .agg #[.int .i64 t223, .int .i64 t224, s_.1]), (37, .bool t228)]) (fun s_ w' => (w'.cell? ⟨gb218, 0, none⟩ = some (.int .i64 t213) ∧ w'.cell? ⟨gb218, 1, none⟩ = some (.int .i64 t214) ∧ w'.cell? ⟨gb218, 2, none⟩ = some (.slice Ao41 t215.length co41) ∧ w'.cell? ⟨gb195, 0, none⟩ = some (.int .i64 a1_0) ∧ w'.cell? ⟨gb195, 1, none⟩ = some (.int .i64 a1_1) ∧ w'.cell? ⟨gb195, 2, none⟩ = some (.int .i64 a1_2) ∧ w'.cell? ⟨gb195, 3, none⟩ = some (.int .i64 a1_3)) ∧ (Kd.R k51 51 w' w.heap.size (fun k_ => some k_ ≠ (.slice Ao31 t208.length co31 : Value).ownBlock ∧ some k_ ≠ (.slice Ao41 t215.length co41 : Value).ownBlock ∧ some k_ ≠ (s_.1 : Value).ownBlock) v200 t199) ∧ (Kd.R k51 51 w' w.heap.size (fun k_ => some k_ ≠ (v200 : Value).ownBlock ∧ some k_ ≠ (.slice Ao41 t215.length co41 : Value).ownBlock ∧ some k_ ≠ (s_.1 : Value).ownBlock) (.slice Ao31 t208.length co31) t208) ∧ (Kd.R k51 51 w' w.heap.size (fun k_ => some k_ ≠ (v200 : Value).ownBlock ∧ some k_ ≠ (.slice Ao31 t208.length co31 : Value).ownBlock ∧ some k_ ≠ (s_.1 : Value).ownBlock) (.slice Ao41 t215.length co41) t215) ∧ (Kd.R k51 51 w' w.heap.size (fun k_ => some k_ ≠ (v200 : Value).ownBlock ∧ some k_ ≠ (.slice Ao31 t208.length co31 : Value).ownBlock ∧ some k_ ≠ (.slice Ao41 t215.length co41 : Value).ownBlock) s_.1 t225) ∧ (w'.heap[gb194]? = some (.cells #[.int .i64 a0_0, .int .i64 a0_1, .slice A0_2 l0_2.length c0_2] 30 (0, 0))) ∧ (w'.heap[gb195]? = some (.cells #[.int .i64 a1_0, .int .i64 a1_1, .int .i64 a1_2, .int .i64 a1_3] 48 (0, 0))) ∧ (w'.heap[gb212]? = some (.cells #[.int .i64 t206, .int .i64 t207, .slice Ao31 t208.length co31] 35 (0, 0))) ∧ (w'.heap[gb218]? = some (.cells #[.int .i64 t213, .int .i64 t214, .slice Ao41 t215.length co41] 35 (0, 0))) ∧ (w'.heap[s_.2]? = some (.cells #[.int .i64 0, .int .i64 0, .slice none 0 0] 35 (0, 0))) ∧ (w.heap.size ≤ s_.2) ∧ (w.heap.size ≤ s_.2) ∧ (gb194 ≠ s_.2) ∧ (s_.2 ≠ gb194) ∧ (gb195 ≠ s_.2) ∧ (s_.2 ≠ gb195) ∧ (gb212 ≠ s_.2) ∧ (s_.2 ≠ gb212) ∧ (gb218 ≠ s_.2) ∧ (s_.2 ≠ gb218) ∧ (Below w.heap.size w w')) ?_ ?_
  rotate_left
  ·
   intro hCont
   refine two_ (i := 2) (j := 7) (Ni := some 34) (Nj := some 9) #[true, true, true, false, false, false, false, false, false, false] #[true, true, false, false, false, false, false, true, false, false] rfl rfl rfl rfl (two_of HT_.out (by kernel_rfl)) (by decide) (by decide) (fun K hK => ?_) (fun K hK => ?_)
   ·
    skip
    refine goes_ Try.func32 (by kernel_rfl) rfl #[.agg #[.int .i64 a1_0, .int .i64 a1_1, .int .i64 a1_2, .int .i64 a1_3]] (by rfl) rfl rfl (by (try simp only [m1_, m2_, m3_]); first | done | rfl) ?_
    with_reducible refine (laws_toResult.calls a1_0 a1_1 a1_2 a1_3 t219 t220 t221 t222 _ A14.out).mono ?_
    rintro e w44 ⟨rfl, hb⟩
    refine ⟨_, rfl, ?_⟩
    have n0_ := a_ (Kd.R_below (R_ HO201.out) hb); have n1_ := a_ (Kd.R_below (R_ HO210.out) hb); have n2_ := a_ (Kd.R_below (R_ HO217.out) hb); have n3_ := bb_ BK194 hb; have n4_ := bb_ BK195 hb; have n5_ := bb_ BK212 hb; have n6_ := bb_ BK218 hb; have n7_ := a_ (below_step (L6_ HB.out GE194.out GE195.out GE212.out GE218.out GE218.out GE218.out) hb); clear HO201; clear HO210; clear HO217; clear BK194; clear BK195; clear BK212; clear BK218; clear HB; have HO201 := n0_; have HO210 := n1_; have HO217 := n2_; have BK194 := n3_; have BK195 := n4_; have BK212 := n5_; have BK218 := n6_; have HB := n7_; clear n0_ n1_ n2_ n3_ n4_ n5_ n6_ n7_
    (try clear hb)
    (try clear hb2)
    (try clear hk)
    (try clear hi)
    refine hK.out _ _ ⟨c_ BK218.out 0, c_ BK218.out 1, c_ BK218.out 2, c_ BK195.out 0, c_ BK195.out 1, c_ BK195.out 2, c_ BK195.out 3⟩ (fun hHeld => ?_)
    clear hK K
    refine norm_ (a' := ?_) ?_ ?_
    rotate_left
    ·
     show Act.put _ (some 34) _ = _
     simp only [Act.put, List.setIfInBounds_toArray, List.set_cons_zero, List.set_cons_succ, i64_w, i32_w]
     rfl
    refine two_ (i := 3) (j := 7) (Ni := some 35) (Nj := some 9) #[true, true, true, true, false, false, false, false, false, false] #[true, true, true, false, false, false, false, true, false, false] rfl rfl rfl rfl (two_of HT_.out (by kernel_rfl)) (by decide) (by decide) (fun K hK => ?_) (fun K hK => ?_)
    ·
     skip
     refine goes_ Try.func33 (by kernel_rfl) rfl #[.agg #[.int .i64 t213, .int .i64 t214, .slice Ao41 t215.length co41], .agg #[.int .i64 t219, .int .i64 t220, .int .i64 t221, .int .i64 t222]] (by rfl) rfl rfl (by (try simp only [m1_, m2_, m3_]); first | done | rfl) ?_
     with_reducible refine (impl_AddResult.calls k t213 t214 _ _ t215 t219 t220 t221 t222 t223 t224 t225 t228 _ ?side1 ?side2 A15.out).mono ?_
     (case side1 => repeat (first | exact (Kd.R_reads' HO217.out).2.2 | (with_reducible refine Kd.C_alloc ?_ _) | (with_reducible refine Kd.C_drewN ?_ _) | (with_reducible refine Kd.C_drew ?_)))
     (case side2 => exact (Kd.R_reads' HO217.out).2.1)
     rintro e w45 ⟨v226, rfl, ho0, hb⟩
     refine ⟨_, rfl, ?_⟩
     have n0_ := a_ (Kd.R_elder' (R_ HO201.out) (Kd.R_base ho0) hb); have n1_ := a_ (Kd.R_elder' (R_ HO210.out) (Kd.R_base ho0) hb); have n2_ := a_ (Kd.R_elder' (R_ HO217.out) (Kd.R_base ho0) hb); have n3_ := a_ (Kd.R_lower (Kd.R_new' (Kd.R_new' (Kd.R_new' ho0 (Kd.R_lt (R_ HO201.out))) (Kd.R_lt (R_ HO210.out))) (Kd.R_lt (R_ HO217.out))) (below_size (L6_ HB.out GE194.out GE195.out GE212.out GE218.out GE218.out GE218.out))); have n4_ := bb_ BK194 hb; have n5_ := bb_ BK195 hb; have n6_ := bb_ BK212 hb; have n7_ := bb_ BK218 hb; have n8_ := a_ (below_step (L6_ HB.out GE194.out GE195.out GE212.out GE218.out GE218.out GE218.out) hb); clear HO201; clear HO210; clear HO217; clear BK194; clear BK195; clear BK212; clear BK218; clear HB; have HO201 := n0_; have HO210 := n1_; have HO217 := n2_; have HO227 := n3_; have BK194 := n4_; have BK195 := n5_; have BK212 := n6_; have BK218 := n7_; have HB := n8_; clear n0_ n1_ n2_ n3_ n4_ n5_ n6_ n7_ n8_
     (try clear hb)
     (try clear hb2)
     (try clear hk)
     (try clear hi)
     (try clear ho0)
     refine hK.out _ _ ⟨c_ BK218.out 0, c_ BK218.out 1, c_ BK218.out 2, c_ BK195.out 0, c_ BK195.out 1, c_ BK195.out 2, c_ BK195.out 3⟩ (fun hHeld => ?_)
     clear hK K
     refine norm_ (a' := ?_) ?_ ?_
     rotate_left
     ·
      show Act.put _ (some 35) _ = _
      simp only [Act.put, List.setIfInBounds_toArray, List.set_cons_zero, List.set_cons_succ, i64_w, i32_w]
      rfl
     refine pure_ (i := 4) (N := some 31) (v := ?_) (a' := ?_) #[true, true, true, true, true, false, false, false, false, false] rfl rfl (any_of HT_.out (by kernel_rfl)) (fun _ _ _ h => h) (Or.inl ⟨by rfl, ?_⟩) ?_ ?_
     rotate_left
     ·
      intro w'
      go_simp
      with_reducible rfl
     rotate_left
     ·
      simp only [Act.put, List.setIfInBounds_toArray, List.set_cons_zero, List.set_cons_succ, i64_w, i32_w]
      rfl
     refine pure_ (i := 5) (N := some 36) (v := ?_) (a' := ?_) #[true, true, true, true, true, true, false, false, false, false] rfl rfl (any_of HT_.out (by kernel_rfl)) (fun _ _ _ h => h) (Or.inl ⟨by rfl, ?_⟩) ?_ ?_
     rotate_left
     ·
      intro w'
      go_simp
      with_reducible rfl
     rotate_left
     ·
      simp only [Act.put, List.setIfInBounds_toArray, List.set_cons_zero, List.set_cons_succ, i64_w, i32_w]
      rfl
     refine pure_ (i := 6) (N := some 37) (v := ?_) (a' := ?_) #[true, true, true, true, true, true, true, false, false, false] rfl rfl (any_of HT_.out (by kernel_rfl)) (fun _ _ _ h => h) (Or.inl ⟨by rfl, ?_⟩) ?_ ?_
     rotate_left
     ·
      intro w'
      go_simp
      with_reducible rfl
     rotate_left
     ·
      simp only [Act.put, List.setIfInBounds_toArray, List.set_cons_zero, List.set_cons_succ, i64_w, i32_w]
      rfl
     refine one_ (i := 7) (N := some 9) #[true, true, true, true, true, true, true, true, false, false] rfl rfl (one_of HT_.out (by kernel_rfl)) (by decide) (fun K hK => ?_)
     refine box_step ?hg (N := 9) ?hd (cs := #[.int .i64 0, .int .i64 0, .slice none 0 0]) (t := 35) ?hr ?_; (case hd => rfl); (case hg => rfl); (case hr => first | (go_simp; done) | (go_simp; rfl))
     intro gb229 hg w46 hbox hb
     have n0_ := a_ (Kd.R_below (R_ HO201.out) hb); have n1_ := a_ (Kd.R_below (R_ HO210.out) hb); have n2_ := a_ (Kd.R_below (R_ HO217.out) hb); have n3_ := a_ (Kd.R_below (R_ HO227.out) hb); have n4_ := bb_ BK194 hb; have n5_ := bb_ BK195 hb; have n6_ := bb_ BK212 hb; have n7_ := bb_ BK218 hb; have n8_ := a_ (below_step (L6_ HB.out GE194.out GE195.out GE212.out GE218.out GE218.out GE218.out) hb); have n9_ := a_ (hbox); have n10_ := a_ ((by rw [hg]; exact (below_size (L6_ HB.out GE194.out GE195.out GE212.out GE218.out GE218.out GE218.out)) : w.heap.size ≤ gb229)); have n11_ := a_ ((by rw [hg]; exact (below_size (L6_ HB.out GE194.out GE195.out GE212.out GE218.out GE218.out GE218.out)) : w.heap.size ≤ gb229)); have n12_ := a_ ((by rw [hg]; exact Nat.ne_of_lt (blk_lt (B_ BK194.out)) : gb194 ≠ gb229)); have n13_ := a_ ((by rw [hg]; exact Nat.ne_of_gt (blk_lt (B_ BK194.out)) : gb229 ≠ gb194)); have n14_ := a_ ((by rw [hg]; exact Nat.ne_of_lt (blk_lt (B_ BK195.out)) : gb195 ≠ gb229)); have n15_ := a_ ((by rw [hg]; exact Nat.ne_of_gt (blk_lt (B_ BK195.out)) : gb229 ≠ gb195)); have n16_ := a_ ((by rw [hg]; exact Nat.ne_of_lt (blk_lt (B_ BK212.out)) : gb212 ≠ gb229)); have n17_ := a_ ((by rw [hg]; exact Nat.ne_of_gt (blk_lt (B_ BK212.out)) : gb229 ≠ gb212)); have n18_ := a_ ((by rw [hg]; exact Nat.ne_of_lt (blk_lt (B_ BK218.out)) : gb218 ≠ gb229)); have n19_ := a_ ((by rw [hg]; exact Nat.ne_of_gt (blk_lt (B_ BK218.out)) : gb229 ≠ gb218)); clear HO201; clear HO210; clear HO217; clear HO227; clear BK194; clear BK195; clear BK212; clear BK218; clear HB; have HO201 := n0_; have HO210 := n1_; have HO217 := n2_; have HO227 := n3_; have BK194 := n4_; have BK195 := n5_; have BK212 := n6_; have BK218 := n7_; have HB := n8_; have BK229 := n9_; have GW229 := n10_; have GE229 := n11_; have NB194_229 := n12_; have NB229_194 := n13_; have NB195_229 := n14_; have NB229_195 := n15_; have NB212_229 := n16_; have NB229_212 := n17_; have NB218_229 := n18_; have NB229_218 := n19_; clear n0_ n1_ n2_ n3_ n4_ n5_ n6_ n7_ n8_ n9_ n10_ n11_ n12_ n13_ n14_ n15_ n16_ n17_ n18_ n19_; clear hb hbox hg
     refine hK.out _ _ ⟨c_ BK218.out 0, c_ BK218.out 1, c_ BK218.out 2, c_ BK195.out 0, c_ BK195.out 1, c_ BK195.out 2, c_ BK195.out 3⟩ (fun hHeld => ?_)
     clear hK K
     refine norm_ (a' := ?_) ?_ ?_
     rotate_left
     ·
      show Act.put _ (some 9) _ = _
      simp only [Act.put, List.setIfInBounds_toArray, List.set_cons_zero, List.set_cons_succ, i64_w, i32_w]
      rfl
     exact norm_ (by simp only [putAll, Act.put, List.setIfInBounds_toArray, List.set_cons_zero, List.set_cons_succ]) (hCont (v226, gb229) _ ⟨hHeld, (by (with_reducible repeat (first | apply Kd.R_alloc | apply Kd.R_drewN | apply Kd.R_drew)); exact Kd.R_mono HO201.out (fun _ hk => ⟨hk.1.1, ⟨hk.1.2, hk.2⟩⟩)), (by (with_reducible repeat (first | apply Kd.R_alloc | apply Kd.R_drewN | apply Kd.R_drew)); exact Kd.R_mono HO210.out (fun _ hk => ⟨hk.1.1, ⟨hk.1.2, hk.2⟩⟩)), (by (with_reducible repeat (first | apply Kd.R_alloc | apply Kd.R_drewN | apply Kd.R_drew)); exact Kd.R_mono HO217.out (fun _ hk => ⟨hk.1.1, ⟨hk.1.2, hk.2⟩⟩)), (by (with_reducible repeat (first | apply Kd.R_alloc | apply Kd.R_drewN | apply Kd.R_drew)); exact Kd.R_mono HO227.out (fun _ hk => ⟨hk.1.1.2, ⟨hk.1.2, hk.2⟩⟩)), (B_ BK194.out), (B_ BK195.out), (B_ BK212.out), (B_ BK218.out), (B_ BK229.out), GW229.out, GE229.out, NB194_229.out, NB229_194.out, NB195_229.out, NB229_195.out, NB212_229.out, NB229_212.out, NB218_229.out, NB229_218.out, (L6_ HB.out GE194.out GE195.out GE212.out GE218.out GE229.out GE229.out)⟩)
    ·
     skip
     refine box_step ?hg (N := 9) ?hd (cs := #[.int .i64 0, .int .i64 0, .slice none 0 0]) (t := 35) ?hr ?_; (case hd => rfl); (case hg => rfl); (case hr => first | (go_simp; done) | (go_simp; rfl))
     intro gb229 hg w45 hbox hb
     have n0_ := a_ (Kd.R_below (R_ HO201.out) hb); have n1_ := a_ (Kd.R_below (R_ HO210.out) hb); have n2_ := a_ (Kd.R_below (R_ HO217.out) hb); have n3_ := bb_ BK194 hb; have n4_ := bb_ BK195 hb; have n5_ := bb_ BK212 hb; have n6_ := bb_ BK218 hb; have n7_ := a_ (below_step (L6_ HB.out GE194.out GE195.out GE212.out GE218.out GE218.out GE218.out) hb); have n8_ := a_ (hbox); have n9_ := a_ ((by rw [hg]; exact (below_size (L6_ HB.out GE194.out GE195.out GE212.out GE218.out GE218.out GE218.out)) : w.heap.size ≤ gb229)); have n10_ := a_ ((by rw [hg]; exact (below_size (L6_ HB.out GE194.out GE195.out GE212.out GE218.out GE218.out GE218.out)) : w.heap.size ≤ gb229)); have n11_ := a_ ((by rw [hg]; exact Nat.ne_of_lt (blk_lt (B_ BK194.out)) : gb194 ≠ gb229)); have n12_ := a_ ((by rw [hg]; exact Nat.ne_of_gt (blk_lt (B_ BK194.out)) : gb229 ≠ gb194)); have n13_ := a_ ((by rw [hg]; exact Nat.ne_of_lt (blk_lt (B_ BK195.out)) : gb195 ≠ gb229)); have n14_ := a_ ((by rw [hg]; exact Nat.ne_of_gt (blk_lt (B_ BK195.out)) : gb229 ≠ gb195)); have n15_ := a_ ((by rw [hg]; exact Nat.ne_of_lt (blk_lt (B_ BK212.out)) : gb212 ≠ gb229)); have n16_ := a_ ((by rw [hg]; exact Nat.ne_of_gt (blk_lt (B_ BK212.out)) : gb229 ≠ gb212)); have n17_ := a_ ((by rw [hg]; exact Nat.ne_of_lt (blk_lt (B_ BK218.out)) : gb218 ≠ gb229)); have n18_ := a_ ((by rw [hg]; exact Nat.ne_of_gt (blk_lt (B_ BK218.out)) : gb229 ≠ gb218)); clear HO201; clear HO210; clear HO217; clear BK194; clear BK195; clear BK212; clear BK218; clear HB; have HO201 := n0_; have HO210 := n1_; have HO217 := n2_; have BK194 := n3_; have BK195 := n4_; have BK212 := n5_; have BK218 := n6_; have HB := n7_; have BK229 := n8_; have GW229 := n9_; have GE229 := n10_; have NB194_229 := n11_; have NB229_194 := n12_; have NB195_229 := n13_; have NB229_195 := n14_; have NB212_229 := n15_; have NB229_212 := n16_; have NB218_229 := n17_; have NB229_218 := n18_; clear n0_ n1_ n2_ n3_ n4_ n5_ n6_ n7_ n8_ n9_ n10_ n11_ n12_ n13_ n14_ n15_ n16_ n17_ n18_; clear hb hbox hg
     refine hK.out _ _ ⟨c_ BK218.out 0, c_ BK218.out 1, c_ BK218.out 2, c_ BK195.out 0, c_ BK195.out 1, c_ BK195.out 2, c_ BK195.out 3⟩ (fun hHeld => ?_)
     clear hK K
     refine norm_ (a' := ?_) ?_ ?_
     rotate_left
     ·
      show Act.put _ (some 9) _ = _
      simp only [Act.put, List.setIfInBounds_toArray, List.set_cons_zero, List.set_cons_succ, i64_w, i32_w]
      rfl
     refine one_ (i := 3) (N := some 35) #[true, true, true, true, false, false, false, true, false, false] rfl rfl (one_of HT_.out (by kernel_rfl)) (by decide) (fun K hK => ?_)
     refine goes_ Try.func33 (by kernel_rfl) rfl #[.agg #[.int .i64 t213, .int .i64 t214, .slice Ao41 t215.length co41], .agg #[.int .i64 t219, .int .i64 t220, .int .i64 t221, .int .i64 t222]] (by rfl) rfl rfl (by (try simp only [m1_, m2_, m3_]); first | done | rfl) ?_
     with_reducible refine (impl_AddResult.calls k t213 t214 _ _ t215 t219 t220 t221 t222 t223 t224 t225 t228 _ ?side1 ?side2 A15.out).mono ?_
     (case side1 => repeat (first | exact (Kd.R_reads' HO217.out).2.2 | (with_reducible refine Kd.C_alloc ?_ _) | (with_reducible refine Kd.C_drewN ?_ _) | (with_reducible refine Kd.C_drew ?_)))
     (case side2 => exact (Kd.R_reads' HO217.out).2.1)
     rintro e w46 ⟨v226, rfl, ho0, hb⟩
     refine ⟨_, rfl, ?_⟩
     have n0_ := a_ (Kd.R_elder' (R_ HO201.out) (Kd.R_base ho0) hb); have n1_ := a_ (Kd.R_elder' (R_ HO210.out) (Kd.R_base ho0) hb); have n2_ := a_ (Kd.R_elder' (R_ HO217.out) (Kd.R_base ho0) hb); have n3_ := a_ (Kd.R_lower (Kd.R_new' (Kd.R_new' (Kd.R_new' ho0 (Kd.R_lt (R_ HO201.out))) (Kd.R_lt (R_ HO210.out))) (Kd.R_lt (R_ HO217.out))) (below_size (L6_ HB.out GE194.out GE195.out GE212.out GE218.out GE229.out GE229.out))); have n4_ := bb_ BK194 hb; have n5_ := bb_ BK195 hb; have n6_ := bb_ BK212 hb; have n7_ := bb_ BK218 hb; have n8_ := bb_ BK229 hb; have n9_ := a_ (below_step (L6_ HB.out GE194.out GE195.out GE212.out GE218.out GE229.out GE229.out) hb); clear HO201; clear HO210; clear HO217; clear BK194; clear BK195; clear BK212; clear BK218; clear BK229; clear HB; have HO201 := n0_; have HO210 := n1_; have HO217 := n2_; have HO227 := n3_; have BK194 := n4_; have BK195 := n5_; have BK212 := n6_; have BK218 := n7_; have BK229 := n8_; have HB := n9_; clear n0_ n1_ n2_ n3_ n4_ n5_ n6_ n7_ n8_ n9_
     (try clear hb)
     (try clear hb2)
     (try clear hk)
     (try clear hi)
     (try clear ho0)
     refine hK.out _ _ ⟨c_ BK218.out 0, c_ BK218.out 1, c_ BK218.out 2, c_ BK195.out 0, c_ BK195.out 1, c_ BK195.out 2, c_ BK195.out 3⟩ (fun hHeld => ?_)
     clear hK K
     refine norm_ (a' := ?_) ?_ ?_
     rotate_left
     ·
      show Act.put _ (some 35) _ = _
      simp only [Act.put, List.setIfInBounds_toArray, List.set_cons_zero, List.set_cons_succ, i64_w, i32_w]
      rfl
     refine pure_ (i := 4) (N := some 31) (v := ?_) (a' := ?_) #[true, true, true, true, true, false, false, true, false, false] rfl rfl (any_of HT_.out (by kernel_rfl)) (fun _ _ _ h => h) (Or.inl ⟨by rfl, ?_⟩) ?_ ?_
     rotate_left
     ·
      intro w'
      go_simp
      with_reducible rfl
     rotate_left
     ·
      simp only [Act.put, List.setIfInBounds_toArray, List.set_cons_zero, List.set_cons_succ, i64_w, i32_w]
      rfl
     refine pure_ (i := 5) (N := some 36) (v := ?_) (a' := ?_) #[true, true, true, true, true, true, false, true, false, false] rfl rfl (any_of HT_.out (by kernel_rfl)) (fun _ _ _ h => h) (Or.inl ⟨by rfl, ?_⟩) ?_ ?_
     rotate_left
     ·
      intro w'
      go_simp
      with_reducible rfl
     rotate_left
     ·
      simp only [Act.put, List.setIfInBounds_toArray, List.set_cons_zero, List.set_cons_succ, i64_w, i32_w]
      rfl
     refine pure_ (i := 6) (N := some 37) (v := ?_) (a' := ?_) #[true, true, true, true, true, true, true, true, false, false] rfl rfl (any_of HT_.out (by kernel_rfl)) (fun _ _ _ h => h) (Or.inl ⟨by rfl, ?_⟩) ?_ ?_
     rotate_left
     ·
      intro w'
      go_simp
      with_reducible rfl
     rotate_left
     ·
      simp only [Act.put, List.setIfInBounds_toArray, List.set_cons_zero, List.set_cons_succ, i64_w, i32_w]
      rfl
     exact norm_ (by simp only [putAll, Act.put, List.setIfInBounds_toArray, List.set_cons_zero, List.set_cons_succ]) (hCont (v226, gb229) _ ⟨hHeld, (by (with_reducible repeat (first | apply Kd.R_alloc | apply Kd.R_drewN | apply Kd.R_drew)); exact Kd.R_mono HO201.out (fun _ hk => ⟨hk.1.1, ⟨hk.1.2, hk.2⟩⟩)), (by (with_reducible repeat (first | apply Kd.R_alloc | apply Kd.R_drewN | apply Kd.R_drew)); exact Kd.R_mono HO210.out (fun _ hk => ⟨hk.1.1, ⟨hk.1.2, hk.2⟩⟩)), (by (with_reducible repeat (first | apply Kd.R_alloc | apply Kd.R_drewN | apply Kd.R_drew)); exact Kd.R_mono HO217.out (fun _ hk => ⟨hk.1.1, ⟨hk.1.2, hk.2⟩⟩)), (by (with_reducible repeat (first | apply Kd.R_alloc | apply Kd.R_drewN | apply Kd.R_drew)); exact Kd.R_mono HO227.out (fun _ hk => ⟨hk.1.1.2, ⟨hk.1.2, hk.2⟩⟩)), (B_ BK194.out), (B_ BK195.out), (B_ BK212.out), (B_ BK218.out), (B_ BK229.out), GW229.out, GE229.out, NB194_229.out, NB229_194.out, NB195_229.out, NB229_195.out, NB212_229.out, NB229_212.out, NB218_229.out, NB229_218.out, (L6_ HB.out GE194.out GE195.out GE212.out GE218.out GE229.out GE229.out)⟩)
   ·
    skip
    refine box_step ?hg (N := 9) ?hd (cs := #[.int .i64 0, .int .i64 0, .slice none 0 0]) (t := 35) ?hr ?_; (case hd => rfl); (case hg => rfl); (case hr => first | (go_simp; done) | (go_simp; rfl))
    intro gb229 hg w44 hbox hb
    have n0_ := a_ (Kd.R_below (R_ HO201.out) hb); have n1_ := a_ (Kd.R_below (R_ HO210.out) hb); have n2_ := a_ (Kd.R_below (R_ HO217.out) hb); have n3_ := bb_ BK194 hb; have n4_ := bb_ BK195 hb; have n5_ := bb_ BK212 hb; have n6_ := bb_ BK218 hb; have n7_ := a_ (below_step (L6_ HB.out GE194.out GE195.out GE212.out GE218.out GE218.out GE218.out) hb); have n8_ := a_ (hbox); have n9_ := a_ ((by rw [hg]; exact (below_size (L6_ HB.out GE194.out GE195.out GE212.out GE218.out GE218.out GE218.out)) : w.heap.size ≤ gb229)); have n10_ := a_ ((by rw [hg]; exact (below_size (L6_ HB.out GE194.out GE195.out GE212.out GE218.out GE218.out GE218.out)) : w.heap.size ≤ gb229)); have n11_ := a_ ((by rw [hg]; exact Nat.ne_of_lt (blk_lt (B_ BK194.out)) : gb194 ≠ gb229)); have n12_ := a_ ((by rw [hg]; exact Nat.ne_of_gt (blk_lt (B_ BK194.out)) : gb229 ≠ gb194)); have n13_ := a_ ((by rw [hg]; exact Nat.ne_of_lt (blk_lt (B_ BK195.out)) : gb195 ≠ gb229)); have n14_ := a_ ((by rw [hg]; exact Nat.ne_of_gt (blk_lt (B_ BK195.out)) : gb229 ≠ gb195)); have n15_ := a_ ((by rw [hg]; exact Nat.ne_of_lt (blk_lt (B_ BK212.out)) : gb212 ≠ gb229)); have n16_ := a_ ((by rw [hg]; exact Nat.ne_of_gt (blk_lt (B_ BK212.out)) : gb229 ≠ gb212)); have n17_ := a_ ((by rw [hg]; exact Nat.ne_of_lt (blk_lt (B_ BK218.out)) : gb218 ≠ gb229)); have n18_ := a_ ((by rw [hg]; exact Nat.ne_of_gt (blk_lt (B_ BK218.out)) : gb229 ≠ gb218)); clear HO201; clear HO210; clear HO217; clear BK194; clear BK195; clear BK212; clear BK218; clear HB; have HO201 := n0_; have HO210 := n1_; have HO217 := n2_; have BK194 := n3_; have BK195 := n4_; have BK212 := n5_; have BK218 := n6_; have HB := n7_; have BK229 := n8_; have GW229 := n9_; have GE229 := n10_; have NB194_229 := n11_; have NB229_194 := n12_; have NB195_229 := n13_; have NB229_195 := n14_; have NB212_229 := n15_; have NB229_212 := n16_; have NB218_229 := n17_; have NB229_218 := n18_; clear n0_ n1_ n2_ n3_ n4_ n5_ n6_ n7_ n8_ n9_ n10_ n11_ n12_ n13_ n14_ n15_ n16_ n17_ n18_; clear hb hbox hg
    refine hK.out _ _ ⟨c_ BK218.out 0, c_ BK218.out 1, c_ BK218.out 2, c_ BK195.out 0, c_ BK195.out 1, c_ BK195.out 2, c_ BK195.out 3⟩ (fun hHeld => ?_)
    clear hK K
    refine norm_ (a' := ?_) ?_ ?_
    rotate_left
    ·
     show Act.put _ (some 9) _ = _
     simp only [Act.put, List.setIfInBounds_toArray, List.set_cons_zero, List.set_cons_succ, i64_w, i32_w]
     rfl
    refine one_ (i := 2) (N := some 34) #[true, true, true, false, false, false, false, true, false, false] rfl rfl (one_of HT_.out (by kernel_rfl)) (by decide) (fun K hK => ?_)
    refine goes_ Try.func32 (by kernel_rfl) rfl #[.agg #[.int .i64 a1_0, .int .i64 a1_1, .int .i64 a1_2, .int .i64 a1_3]] (by rfl) rfl rfl (by (try simp only [m1_, m2_, m3_]); first | done | rfl) ?_
    with_reducible refine (laws_toResult.calls a1_0 a1_1 a1_2 a1_3 t219 t220 t221 t222 _ A14.out).mono ?_
    rintro e w45 ⟨rfl, hb⟩
    refine ⟨_, rfl, ?_⟩
    have n0_ := a_ (Kd.R_below (R_ HO201.out) hb); have n1_ := a_ (Kd.R_below (R_ HO210.out) hb); have n2_ := a_ (Kd.R_below (R_ HO217.out) hb); have n3_ := bb_ BK194 hb; have n4_ := bb_ BK195 hb; have n5_ := bb_ BK212 hb; have n6_ := bb_ BK218 hb; have n7_ := bb_ BK229 hb; have n8_ := a_ (below_step (L6_ HB.out GE194.out GE195.out GE212.out GE218.out GE229.out GE229.out) hb); clear HO201; clear HO210; clear HO217; clear BK194; clear BK195; clear BK212; clear BK218; clear BK229; clear HB; have HO201 := n0_; have HO210 := n1_; have HO217 := n2_; have BK194 := n3_; have BK195 := n4_; have BK212 := n5_; have BK218 := n6_; have BK229 := n7_; have HB := n8_; clear n0_ n1_ n2_ n3_ n4_ n5_ n6_ n7_ n8_
    (try clear hb)
    (try clear hb2)
    (try clear hk)
    (try clear hi)
    refine hK.out _ _ ⟨c_ BK218.out 0, c_ BK218.out 1, c_ BK218.out 2, c_ BK195.out 0, c_ BK195.out 1, c_ BK195.out 2, c_ BK195.out 3⟩ (fun hHeld => ?_)
    clear hK K
    refine norm_ (a' := ?_) ?_ ?_
    rotate_left
    ·
     show Act.put _ (some 34) _ = _
     simp only [Act.put, List.setIfInBounds_toArray, List.set_cons_zero, List.set_cons_succ, i64_w, i32_w]
     rfl
    refine one_ (i := 3) (N := some 35) #[true, true, true, true, false, false, false, true, false, false] rfl rfl (one_of HT_.out (by kernel_rfl)) (by decide) (fun K hK => ?_)
    refine goes_ Try.func33 (by kernel_rfl) rfl #[.agg #[.int .i64 t213, .int .i64 t214, .slice Ao41 t215.length co41], .agg #[.int .i64 t219, .int .i64 t220, .int .i64 t221, .int .i64 t222]] (by rfl) rfl rfl (by (try simp only [m1_, m2_, m3_]); first | done | rfl) ?_
    with_reducible refine (impl_AddResult.calls k t213 t214 _ _ t215 t219 t220 t221 t222 t223 t224 t225 t228 _ ?side1 ?side2 A15.out).mono ?_
    (case side1 => repeat (first | exact (Kd.R_reads' HO217.out).2.2 | (with_reducible refine Kd.C_alloc ?_ _) | (with_reducible refine Kd.C_drewN ?_ _) | (with_reducible refine Kd.C_drew ?_)))
    (case side2 => exact (Kd.R_reads' HO217.out).2.1)
    rintro e w46 ⟨v226, rfl, ho0, hb⟩
    refine ⟨_, rfl, ?_⟩
    have n0_ := a_ (Kd.R_elder' (R_ HO201.out) (Kd.R_base ho0) hb); have n1_ := a_ (Kd.R_elder' (R_ HO210.out) (Kd.R_base ho0) hb); have n2_ := a_ (Kd.R_elder' (R_ HO217.out) (Kd.R_base ho0) hb); have n3_ := a_ (Kd.R_lower (Kd.R_new' (Kd.R_new' (Kd.R_new' ho0 (Kd.R_lt (R_ HO201.out))) (Kd.R_lt (R_ HO210.out))) (Kd.R_lt (R_ HO217.out))) (below_size (L6_ HB.out GE194.out GE195.out GE212.out GE218.out GE229.out GE229.out))); have n4_ := bb_ BK194 hb; have n5_ := bb_ BK195 hb; have n6_ := bb_ BK212 hb; have n7_ := bb_ BK218 hb; have n8_ := bb_ BK229 hb; have n9_ := a_ (below_step (L6_ HB.out GE194.out GE195.out GE212.out GE218.out GE229.out GE229.out) hb); clear HO201; clear HO210; clear HO217; clear BK194; clear BK195; clear BK212; clear BK218; clear BK229; clear HB; have HO201 := n0_; have HO210 := n1_; have HO217 := n2_; have HO227 := n3_; have BK194 := n4_; have BK195 := n5_; have BK212 := n6_; have BK218 := n7_; have BK229 := n8_; have HB := n9_; clear n0_ n1_ n2_ n3_ n4_ n5_ n6_ n7_ n8_ n9_
    (try clear hb)
    (try clear hb2)
    (try clear hk)
    (try clear hi)
    (try clear ho0)
    refine hK.out _ _ ⟨c_ BK218.out 0, c_ BK218.out 1, c_ BK218.out 2, c_ BK195.out 0, c_ BK195.out 1, c_ BK195.out 2, c_ BK195.out 3⟩ (fun hHeld => ?_)
    clear hK K
    refine norm_ (a' := ?_) ?_ ?_
    rotate_left
    ·
     show Act.put _ (some 35) _ = _
     simp only [Act.put, List.setIfInBounds_toArray, List.set_cons_zero, List.set_cons_succ, i64_w, i32_w]
     rfl
    refine pure_ (i := 4) (N := some 31) (v := ?_) (a' := ?_) #[true, true, true, true, true, false, false, true, false, false] rfl rfl (any_of HT_.out (by kernel_rfl)) (fun _ _ _ h => h) (Or.inl ⟨by rfl, ?_⟩) ?_ ?_
    rotate_left
    ·
     intro w'
     go_simp
     with_reducible rfl
    rotate_left
    ·
     simp only [Act.put, List.setIfInBounds_toArray, List.set_cons_zero, List.set_cons_succ, i64_w, i32_w]
     rfl
    refine pure_ (i := 5) (N := some 36) (v := ?_) (a' := ?_) #[true, true, true, true, true, true, false, true, false, false] rfl rfl (any_of HT_.out (by kernel_rfl)) (fun _ _ _ h => h) (Or.inl ⟨by rfl, ?_⟩) ?_ ?_
    rotate_left
    ·
     intro w'
     go_simp
     with_reducible rfl
    rotate_left
    ·
     simp only [Act.put, List.setIfInBounds_toArray, List.set_cons_zero, List.set_cons_succ, i64_w, i32_w]
     rfl
    refine pure_ (i := 6) (N := some 37) (v := ?_) (a' := ?_) #[true, true, true, true, true, true, true, true, false, false] rfl rfl (any_of HT_.out (by kernel_rfl)) (fun _ _ _ h => h) (Or.inl ⟨by rfl, ?_⟩) ?_ ?_
    rotate_left
    ·
     intro w'
     go_simp
     with_reducible rfl
    rotate_left
    ·
     simp only [Act.put, List.setIfInBounds_toArray, List.set_cons_zero, List.set_cons_succ, i64_w, i32_w]
     rfl
    exact norm_ (by simp only [putAll, Act.put, List.setIfInBounds_toArray, List.set_cons_zero, List.set_cons_succ]) (hCont (v226, gb229) _ ⟨hHeld, (by (with_reducible repeat (first | apply Kd.R_alloc | apply Kd.R_drewN | apply Kd.R_drew)); exact Kd.R_mono HO201.out (fun _ hk => ⟨hk.1.1, ⟨hk.1.2, hk.2⟩⟩)), (by (with_reducible repeat (first | apply Kd.R_alloc | apply Kd.R_drewN | apply Kd.R_drew)); exact Kd.R_mono HO210.out (fun _ hk => ⟨hk.1.1, ⟨hk.1.2, hk.2⟩⟩)), (by (with_reducible repeat (first | apply Kd.R_alloc | apply Kd.R_drewN | apply Kd.R_drew)); exact Kd.R_mono HO217.out (fun _ hk => ⟨hk.1.1, ⟨hk.1.2, hk.2⟩⟩)), (by (with_reducible repeat (first | apply Kd.R_alloc | apply Kd.R_drewN | apply Kd.R_drew)); exact Kd.R_mono HO227.out (fun _ hk => ⟨hk.1.1.2, ⟨hk.1.2, hk.2⟩⟩)), (B_ BK194.out), (B_ BK195.out), (B_ BK212.out), (B_ BK218.out), (B_ BK229.out), GW229.out, GE229.out, NB194_229.out, NB229_194.out, NB195_229.out, NB229_195.out, NB212_229.out, NB229_212.out, NB218_229.out, NB229_218.out, (L6_ HB.out GE194.out GE195.out GE212.out GE218.out GE229.out GE229.out)⟩)
  rintro ⟨v226, gb229⟩ w47 ⟨hS_, h0_, h1_, h2_, h3_, h4_, h5_, h6_, h7_, h8_, h9_, h10_, h11_, h12_, h13_, h14_, h15_, h16_, h17_, h18_, h19_⟩; have n0_ : Aside0 (Kd.R k51 51 w47 w.heap.size (fun k_ => some k_ ≠ (.slice Ao31 t208.length co31 : Value).ownBlock ∧ some k_ ≠ (.slice Ao41 t215.length co41 : Value).ownBlock ∧ some k_ ≠ (v226 : Value).ownBlock) v200 t199) := ⟨h0_⟩; have n1_ : Aside0 (Kd.R k51 51 w47 w.heap.size (fun k_ => some k_ ≠ (v200 : Value).ownBlock ∧ some k_ ≠ (.slice Ao41 t215.length co41 : Value).ownBlock ∧ some k_ ≠ (v226 : Value).ownBlock) (.slice Ao31 t208.length co31) t208) := ⟨h1_⟩; have n2_ : Aside0 (Kd.R k51 51 w47 w.heap.size (fun k_ => some k_ ≠ (v200 : Value).ownBlock ∧ some k_ ≠ (.slice Ao31 t208.length co31 : Value).ownBlock ∧ some k_ ≠ (v226 : Value).ownBlock) (.slice Ao41 t215.length co41) t215) := ⟨h2_⟩; have n3_ : Aside0 (Kd.R k51 51 w47 w.heap.size (fun k_ => some k_ ≠ (v200 : Value).ownBlock ∧ some k_ ≠ (.slice Ao31 t208.length co31 : Value).ownBlock ∧ some k_ ≠ (.slice Ao41 t215.length co41 : Value).ownBlock) v226 t225) := ⟨h3_⟩; have n4_ : Aside0 (w47.heap[gb194]? = some (.cells #[.int .i64 a0_0, .int .i64 a0_1, .slice A0_2 l0_2.length c0_2] 30 (0, 0))) := ⟨h4_⟩; have n5_ : Aside0 (w47.heap[gb195]? = some (.cells #[.int .i64 a1_0, .int .i64 a1_1, .int .i64 a1_2, .int .i64 a1_3] 48 (0, 0))) := ⟨h5_⟩; have n6_ : Aside0 (w47.heap[gb212]? = some (.cells #[.int .i64 t206, .int .i64 t207, .slice Ao31 t208.length co31] 35 (0, 0))) := ⟨h6_⟩; have n7_ : Aside0 (w47.heap[gb218]? = some (.cells #[.int .i64 t213, .int .i64 t214, .slice Ao41 t215.length co41] 35 (0, 0))) := ⟨h7_⟩; have n8_ : Aside0 (w47.heap[gb229]? = some (.cells #[.int .i64 0, .int .i64 0, .slice none 0 0] 35 (0, 0))) := ⟨h8_⟩; have n9_ : Aside0 (w.heap.size ≤ gb229) := ⟨h9_⟩; have n10_ : Aside0 (w.heap.size ≤ gb229) := ⟨h10_⟩; have n11_ : Aside0 (gb194 ≠ gb229) := ⟨h11_⟩; have n12_ : Aside0 (gb229 ≠ gb194) := ⟨h12_⟩; have n13_ : Aside0 (gb195 ≠ gb229) := ⟨h13_⟩; have n14_ : Aside0 (gb229 ≠ gb195) := ⟨h14_⟩; have n15_ : Aside0 (gb212 ≠ gb229) := ⟨h15_⟩; have n16_ : Aside0 (gb229 ≠ gb212) := ⟨h16_⟩; have n17_ : Aside0 (gb218 ≠ gb229) := ⟨h17_⟩; have n18_ : Aside0 (gb229 ≠ gb218) := ⟨h18_⟩; have n19_ : Aside0 (Below w.heap.size w w47) := ⟨h19_⟩; clear HO201; clear HO210; clear HO217; clear BK194; clear BK195; clear BK212; clear BK218; clear HB; clear h0_ h1_ h2_ h3_ h4_ h5_ h6_ h7_ h8_ h9_ h10_ h11_ h12_ h13_ h14_ h15_ h16_ h17_ h18_ h19_; have HO201 := n0_; have HO210 := n1_; have HO217 := n2_; have HO227 := n3_; have BK194 := n4_; have BK195 := n5_; have BK212 := n6_; have BK218 := n7_; have BK229 := n8_; have GW229 := n9_; have GE229 := n10_; have NB194_229 := n11_; have NB229_194 := n12_; have NB195_229 := n13_; have NB229_195 := n14_; have NB212_229 := n15_; have NB229_212 := n16_; have NB218_229 := n17_; have NB229_218 := n18_; have HB := n19_; clear n0_ n1_ n2_ n3_ n4_ n5_ n6_ n7_ n8_ n9_ n10_ n11_ n12_ n13_ n14_ n15_ n16_ n17_ n18_ n19_; have hHeld : w47.cell? ⟨gb218, 0, none⟩ = some (.int .i64 t213) ∧ w47.cell? ⟨gb218, 1, none⟩ = some (.int .i64 t214) ∧ w47.cell? ⟨gb218, 2, none⟩ = some (.slice Ao41 t215.length co41) ∧ w47.cell? ⟨gb195, 0, none⟩ = some (.int .i64 a1_0) ∧ w47.cell? ⟨gb195, 1, none⟩ = some (.int .i64 a1_1) ∧ w47.cell? ⟨gb195, 2, none⟩ = some (.int .i64 a1_2) ∧ w47.cell? ⟨gb195, 3, none⟩ = some (.int .i64 a1_3) := hS_
  obtain ⟨Ao50, co50, eo50⟩ := Kd.R_slice HO227.out
  (first | subst eo50 | (injection eo50 with f1_ f2_ f3_; have f4_ := f1_.symm; have f5_ := f3_.symm; clear f1_ f2_ f3_; subst f4_; subst f5_))
  refine norm_ (a' := ?_) ?_ ?_
  rotate_left
  ·
   simp only [putAll, Act.put, List.setIfInBounds_toArray, List.set_cons_zero, List.set_cons_succ]
   rfl
  refine one_ (i := 8) (N := none) #[true, true, true, true, true, true, true, true, true, false] rfl rfl (one_of HT_.out (by kernel_rfl)) (by decide) (fun K hK => ?_)
  have hs48 : w47.cell? ⟨gb229, 0, none⟩ = some (.int .i64 0) := c_ BK229.out 0; have hfs48 := blk_frozen BK229.out 0; have hns48_0 := NB194_229.out; have hns48_1 := NB195_229.out; have hns48_2 := NB212_229.out; have hns48_3 := NB218_229.out; have hms48_0 := NB229_194.out; have hms48_1 := NB229_195.out; have hms48_2 := NB229_212.out; have hms48_3 := NB229_218.out; have hs49 : w47.cell? ⟨gb229, 1, none⟩ = some (.int .i64 0) := c_ BK229.out 1; have hfs49 := blk_frozen BK229.out 1; have hns49_0 := NB194_229.out; have hns49_1 := NB195_229.out; have hns49_2 := NB212_229.out; have hns49_3 := NB218_229.out; have hms49_0 := NB229_194.out; have hms49_1 := NB229_195.out; have hms49_2 := NB229_212.out; have hms49_3 := NB229_218.out; have hs51 : w47.cell? ⟨gb229, 2, none⟩ = some (.slice none 0 0) := c_ BK229.out 2; have hfs51 := blk_frozen BK229.out 2; have hns51_0 := NB194_229.out; have hns51_1 := NB195_229.out; have hns51_2 := NB212_229.out; have hns51_3 := NB218_229.out; have hms51_0 := NB229_194.out; have hms51_1 := NB229_195.out; have hms51_2 := NB229_212.out; have hms51_3 := NB229_218.out
  refine skip_ (w1 := ?_) (by rfl) rfl ?_ ?_
  rotate_left
  ·
   go_simp
   rfl
  refine hK.out _ _ ⟨((cell_far (p := ⟨gb229, _, none⟩) NB218_229.out _).trans (((cell_far (p := ⟨gb229, _, none⟩) NB218_229.out _).trans (((cell_far (p := ⟨gb229, _, none⟩) NB218_229.out _).trans (hHeld.1)))))), ((cell_far (p := ⟨gb229, _, none⟩) NB218_229.out _).trans (((cell_far (p := ⟨gb229, _, none⟩) NB218_229.out _).trans (((cell_far (p := ⟨gb229, _, none⟩) NB218_229.out _).trans (hHeld.2.1)))))), ((cell_far (p := ⟨gb229, _, none⟩) NB218_229.out _).trans (((cell_far (p := ⟨gb229, _, none⟩) NB218_229.out _).trans (((cell_far (p := ⟨gb229, _, none⟩) NB218_229.out _).trans (hHeld.2.2.1)))))), ((cell_far (p := ⟨gb229, _, none⟩) NB195_229.out _).trans (((cell_far (p := ⟨gb229, _, none⟩) NB195_229.out _).trans (((cell_far (p := ⟨gb229, _, none⟩) NB195_229.out _).trans (hHeld.2.2.2.1)))))), ((cell_far (p := ⟨gb229, _, none⟩) NB195_229.out _).trans (((cell_far (p := ⟨gb229, _, none⟩) NB195_229.out _).trans (((cell_far (p := ⟨gb229, _, none⟩) NB195_229.out _).trans (hHeld.2.2.2.2.1)))))), ((cell_far (p := ⟨gb229, _, none⟩) NB195_229.out _).trans (((cell_far (p := ⟨gb229, _, none⟩) NB195_229.out _).trans (((cell_far (p := ⟨gb229, _, none⟩) NB195_229.out _).trans (hHeld.2.2.2.2.2.1)))))), ((cell_far (p := ⟨gb229, _, none⟩) NB195_229.out _).trans (((cell_far (p := ⟨gb229, _, none⟩) NB195_229.out _).trans (((cell_far (p := ⟨gb229, _, none⟩) NB195_229.out _).trans (hHeld.2.2.2.2.2.2))))))⟩ (fun hHeld => ?_)
  clear hK K
  refine pure_ (i := 9) (N := some 10) (v := ?_) (a' := ?_) #[true, true, true, true, true, true, true, true, true, true] rfl rfl (any_of HT_.out (by kernel_rfl)) (fun _ _ _ h => h) (Or.inl ⟨by rfl, ?_⟩) ?_ ?_
  rotate_left
  ·
   intro w'
   go_simp
   with_reducible rfl
  rotate_left
  ·
   simp only [Act.put, List.setIfInBounds_toArray, List.set_cons_zero, List.set_cons_succ, i64_w, i32_w]
   rfl
  refine done_ (done_of HT_.out (by kernel_rfl)) ?_
  go_upto_region 8 with (fail)
  go_cut [46] (fun v46 wc => ∃ (kq : Nat) (x46_15 : Bool), v46 = .bool x46_15 ∧ Aside0 (laws_FnExactAddResult.j0 kq t211 t228 x46_15 a0_0 a0_1 l0_2 a1_0 a1_1 a1_2 a1_3 t206 t207 t208 t213 t214 t215 t223 t224 t225 = some r) ∧ Aside0 (kq ≤ k) ∧ Aside0 (Kd.R k51 51 wc w.heap.size (fun k_ => some k_ ≠ ((.slice Ao41 t215.length co41) : Value).ownBlock ∧ some k_ ≠ ((.slice Ao50 t225.length co50) : Value).ownBlock) (.slice Ao31 t208.length co31) t208) ∧ Aside0 (Kd.R k51 51 wc w.heap.size (fun k_ => some k_ ≠ ((.slice Ao31 t208.length co31) : Value).ownBlock ∧ some k_ ≠ ((.slice Ao50 t225.length co50) : Value).ownBlock) (.slice Ao41 t215.length co41) t215) ∧ Aside0 (Kd.R k51 51 wc w.heap.size (fun k_ => some k_ ≠ ((.slice Ao31 t208.length co31) : Value).ownBlock ∧ some k_ ≠ ((.slice Ao41 t215.length co41) : Value).ownBlock) (.slice Ao50 t225.length co50) t225) ∧ Aside0 (wc.heap[gb194]? = some (.cells #[.int .i64 a0_0, .int .i64 a0_1, (.slice A0_2 l0_2.length c0_2)] 30 (0, 0))) ∧ Aside0 (wc.heap[gb195]? = some (.cells #[.int .i64 a1_0, .int .i64 a1_1, .int .i64 a1_2, .int .i64 a1_3] 48 (0, 0))) ∧ Aside0 (wc.heap[gb212]? = some (.cells #[.int .i64 t206, .int .i64 t207, (.slice Ao31 t208.length co31)] 35 (0, 0))) ∧ Aside0 (wc.heap[gb218]? = some (.cells #[.int .i64 t213, .int .i64 t214, (.slice Ao41 t215.length co41)] 35 (0, 0))) ∧ Aside0 (wc.heap[gb229]? = some (.cells #[.int .i64 t223, .int .i64 t224, (.slice Ao50 t225.length co50)] 35 (0, 0))) ∧ Aside0 (Below w.heap.size w wc))
  case first =>
   have H := HC16.out; clear HC16; replace H := Option.bind_eq_some_iff.mp H; obtain ⟨t230, A520, H⟩ := H; replace H : (if t230 = true then (laws_FnExactAddResult.j0 k t211 t228 (t228 != t211) a0_0 a0_1 l0_2 a1_0 a1_1 a1_2 a1_3 t206 t207 t208 t213 t214 t215 t223 t224 t225) else (laws_FnExactAddResult.j0 k t211 t228 true a0_0 a0_1 l0_2 a1_0 a1_1 a1_2 a1_3 t206 t207 t208 t213 t214 t215 t223 t224 t225)) = some r := H; have A52 := a_ A520; clear A520
   by_cases c53 : t230 = true
   ·
    subst c53; have H1 : (laws_FnExactAddResult.j0 k t211 t228 (t228 != t211) a0_0 a0_1 l0_2 a1_0 a1_1 a1_2 a1_3 t206 t207 t208 t213 t214 t215 t223 t224 t225) = some r := by rw [if_pos rfl] at H; exact H
    clear H; have H := H1; clear H1; have H' := a_ H; clear H; have hnb54 := NB229_194.out; have hnc54 := NB194_229.out; have hnb55 := NB229_195.out; have hnc55 := NB195_229.out; have hnb56 := NB229_212.out; have hnc56 := NB212_229.out; have hnb57 := NB229_218.out; have hnc57 := NB218_229.out; have hcz58_0 : w47.cell? ⟨gb229, 0, none⟩ = some (.int .i64 0) := c_ BK229.out 0; have hcz58_1 : w47.cell? ⟨gb229, 1, none⟩ = some (.int .i64 0) := c_ BK229.out 1; have hcz58_2 : w47.cell? ⟨gb229, 2, none⟩ = some (.slice none 0 0) := c_ BK229.out 2; have hfz58_0 := blk_frozen BK229.out 0; have hfz58_1 := blk_frozen BK229.out 1; have hfz58_2 := blk_frozen BK229.out 2; have hnb59 := NB212_194.out; have hnc59 := NB194_212.out; have hnb60 := NB212_195.out; have hnc60 := NB195_212.out; have hnb61 := NB212_218.out; have hnc61 := NB218_212.out; have hcz62_0 : w47.cell? ⟨gb212, 0, none⟩ = some (.int .i64 t206) := c_ BK212.out 0; have hcz62_1 : w47.cell? ⟨gb212, 1, none⟩ = some (.int .i64 t207) := c_ BK212.out 1; have hcz62_2 : w47.cell? ⟨gb212, 2, none⟩ = some (.slice Ao31 t208.length co31) := c_ BK212.out 2; have hfz62_0 := blk_frozen BK212.out 0; have hfz62_1 := blk_frozen BK212.out 1; have hfz62_2 := blk_frozen BK212.out 2
    go_wp2_with (first | ((with_reducible refine gate_callee (f := 24) rfl ?_); refine goesL_ (some 40) rfl rfl Try.func24 (by kernel_rfl) rfl #[.agg #[.int .i64 t223, .int .i64 t224, .slice Ao50 t225.length co50], .agg #[.int .i64 t206, .int .i64 t207, .slice Ao31 t208.length co31]] rfl (by (try simp only [m1_, m2_, m3_]); first | done | rfl) ?_; (with_reducible refine (laws_eqLeague.calls k t223 t224 _ _ t225 t206 t207 _ _ t208 true _ ?side1 ?side2 ?side3 ?side4 A52.out).mono ?_); (case side1 => refine (Kd.R_reads' (e := 51) (base := w.heap.size) (ok := fun k_ => (some k_ ≠ (v200 : Value).ownBlock ∧ (some k_ ≠ (.slice Ao31 t208.length co31 : Value).ownBlock ∧ some k_ ≠ (.slice Ao41 t215.length co41 : Value).ownBlock))) (n := t225.length) (c := co50) ?_).2.2; exact (by (with_reducible repeat (first | apply Kd.R_alloc | apply Kd.R_drewN | apply Kd.R_drew)); exact (Kd.R_mono (Kd.R_far (p := ⟨gb229, 2, none⟩) (Kd.R_far (p := ⟨gb229, 1, none⟩) (Kd.R_far (p := ⟨gb229, 0, none⟩) (Kd.R_types HO227.out BK229.out (by decide)) (fun _ hk => hk.2) (.int .i64 t223)) (fun _ hk => hk.2) (.int .i64 t224)) (fun _ hk => hk.2) (.slice Ao50 t225.length co50)) (fun _ h_ => h_.1)))); (case side2 => exact (Kd.R_reads' HO227.out).2.1); (case side3 => refine (Kd.R_reads' (e := 51) (base := w.heap.size) (ok := fun k_ => (some k_ ≠ (v200 : Value).ownBlock ∧ (some k_ ≠ (.slice Ao41 t215.length co41 : Value).ownBlock ∧ some k_ ≠ (.slice Ao50 t225.length co50 : Value).ownBlock))) (n := t208.length) (c := co31) ?_).2.2; exact (by (with_reducible repeat (first | apply Kd.R_alloc | apply Kd.R_drewN | apply Kd.R_drew)); exact (Kd.R_mono (Kd.R_far (p := ⟨gb229, 2, none⟩) (Kd.R_far (p := ⟨gb229, 1, none⟩) (Kd.R_far (p := ⟨gb229, 0, none⟩) (Kd.R_types HO210.out BK229.out (by decide)) (fun _ hk => hk.2) (.int .i64 t223)) (fun _ hk => hk.2) (.int .i64 t224)) (fun _ hk => hk.2) (.slice Ao50 t225.length co50)) (fun _ h_ => h_.1)))); (case side4 => exact (Kd.R_reads' HO210.out).2.1); rintro e w63 ⟨rfl, hb⟩; refine ⟨_, rfl, ?_⟩; have n0_ := a_ (Kd.R_below (by (with_reducible repeat (first | apply Kd.R_alloc | apply Kd.R_drewN | apply Kd.R_drew)); exact (Kd.R_mono (Kd.R_far (p := ⟨gb229, 2, none⟩) (Kd.R_far (p := ⟨gb229, 1, none⟩) (Kd.R_far (p := ⟨gb229, 0, none⟩) (Kd.R_types HO201.out BK229.out (by decide)) (fun _ hk => hk.2) (.int .i64 t223)) (fun _ hk => hk.2) (.int .i64 t224)) (fun _ hk => hk.2) (.slice Ao50 t225.length co50)) (fun _ h_ => h_.1))) hb); have n1_ := a_ (Kd.R_below (by (with_reducible repeat (first | apply Kd.R_alloc | apply Kd.R_drewN | apply Kd.R_drew)); exact (Kd.R_mono (Kd.R_far (p := ⟨gb229, 2, none⟩) (Kd.R_far (p := ⟨gb229, 1, none⟩) (Kd.R_far (p := ⟨gb229, 0, none⟩) (Kd.R_types HO210.out BK229.out (by decide)) (fun _ hk => hk.2) (.int .i64 t223)) (fun _ hk => hk.2) (.int .i64 t224)) (fun _ hk => hk.2) (.slice Ao50 t225.length co50)) (fun _ h_ => h_.1))) hb); have n2_ := a_ (Kd.R_below (by (with_reducible repeat (first | apply Kd.R_alloc | apply Kd.R_drewN | apply Kd.R_drew)); exact (Kd.R_mono (Kd.R_far (p := ⟨gb229, 2, none⟩) (Kd.R_far (p := ⟨gb229, 1, none⟩) (Kd.R_far (p := ⟨gb229, 0, none⟩) (Kd.R_types HO217.out BK229.out (by decide)) (fun _ hk => hk.2) (.int .i64 t223)) (fun _ hk => hk.2) (.int .i64 t224)) (fun _ hk => hk.2) (.slice Ao50 t225.length co50)) (fun _ h_ => h_.1))) hb); have n3_ := a_ (Kd.R_below (by (with_reducible repeat (first | apply Kd.R_alloc | apply Kd.R_drewN | apply Kd.R_drew)); exact (Kd.R_mono (Kd.R_far (p := ⟨gb229, 2, none⟩) (Kd.R_far (p := ⟨gb229, 1, none⟩) (Kd.R_far (p := ⟨gb229, 0, none⟩) (Kd.R_types HO227.out BK229.out (by decide)) (fun _ hk => hk.2) (.int .i64 t223)) (fun _ hk => hk.2) (.int .i64 t224)) (fun _ hk => hk.2) (.slice Ao50 t225.length co50)) (fun _ h_ => h_.1))) hb); have n4_ := a_ (blk_below (g := gb194) (o := .cells #[.int .i64 a0_0, .int .i64 a0_1, .slice A0_2 l0_2.length c0_2] 30 (0, 0)) (by (with_reducible repeat (first | refine blk_drewN ?_ _ | refine blk_drew ?_ | refine blk_alloc ?_ _)); refine blk_far ?_ NB194_229.out _; refine blk_far ?_ NB194_229.out _; refine blk_far ?_ NB194_229.out _; exact B_ BK194.out) hb); have n5_ := a_ (blk_below (g := gb195) (o := .cells #[.int .i64 a1_0, .int .i64 a1_1, .int .i64 a1_2, .int .i64 a1_3] 48 (0, 0)) (by (with_reducible repeat (first | refine blk_drewN ?_ _ | refine blk_drew ?_ | refine blk_alloc ?_ _)); refine blk_far ?_ NB195_229.out _; refine blk_far ?_ NB195_229.out _; refine blk_far ?_ NB195_229.out _; exact B_ BK195.out) hb); have n6_ := a_ (blk_below (g := gb212) (o := .cells #[.int .i64 t206, .int .i64 t207, .slice Ao31 t208.length co31] 35 (0, 0)) (by (with_reducible repeat (first | refine blk_drewN ?_ _ | refine blk_drew ?_ | refine blk_alloc ?_ _)); refine blk_far ?_ NB212_229.out _; refine blk_far ?_ NB212_229.out _; refine blk_far ?_ NB212_229.out _; exact B_ BK212.out) hb); have n7_ := a_ (blk_below (g := gb218) (o := .cells #[.int .i64 t213, .int .i64 t214, .slice Ao41 t215.length co41] 35 (0, 0)) (by (with_reducible repeat (first | refine blk_drewN ?_ _ | refine blk_drew ?_ | refine blk_alloc ?_ _)); refine blk_far ?_ NB218_229.out _; refine blk_far ?_ NB218_229.out _; refine blk_far ?_ NB218_229.out _; exact B_ BK218.out) hb); have n8_ := a_ (blk_below (g := gb229) (o := .cells #[.int .i64 t223, .int .i64 t224, .slice Ao50 t225.length co50] 35 (0, 0)) (by (with_reducible repeat (first | refine blk_drewN ?_ _ | refine blk_drew ?_ | refine blk_alloc ?_ _)); refine blk_put (cs := #[.int .i64 t223, .int .i64 t224, .slice none 0 0]) ?_ 2 _ rfl; (with_reducible repeat (first | refine blk_drewN ?_ _ | refine blk_drew ?_ | refine blk_alloc ?_ _)); refine blk_put (cs := #[.int .i64 t223, .int .i64 0, .slice none 0 0]) ?_ 1 _ rfl; (with_reducible repeat (first | refine blk_drewN ?_ _ | refine blk_drew ?_ | refine blk_alloc ?_ _)); refine blk_put (cs := #[.int .i64 0, .int .i64 0, .slice none 0 0]) ?_ 0 _ rfl; exact B_ BK229.out) hb); have n9_ := a_ (below_step (L6_ HB.out GE194.out GE195.out GE212.out GE218.out GE229.out GE229.out) hb); clear HO201; clear HO210; clear HO217; clear HO227; clear BK194; clear BK195; clear BK212; clear BK218; clear BK229; clear HB; have HO201 := n0_; have HO210 := n1_; have HO217 := n2_; have HO227 := n3_; have BK194 := n4_; have BK195 := n5_; have BK212 := n6_; have BK218 := n7_; have BK229 := n8_; have HB := n9_; clear n0_ n1_ n2_ n3_ n4_ n5_ n6_ n7_ n8_ n9_; (try clear hb); (try clear hb2); (try clear hk); (try clear hi)))
    go_meet
    case rel => exact ⟨_, ((t228 != t211)), (by first | rfl | (simp; done) | (simp [*]; done)), H', ⟨by first | omega | exact Nat.le_refl _⟩, ⟨by (with_reducible repeat (first | apply Kd.R_alloc | apply Kd.R_drewN | apply Kd.R_drew)); exact Kd.R_mono HO210.out (fun _ hk => ⟨hk.2.1, hk.2.2⟩)⟩, ⟨by (with_reducible repeat (first | apply Kd.R_alloc | apply Kd.R_drewN | apply Kd.R_drew)); exact Kd.R_mono HO217.out (fun _ hk => ⟨hk.2.1, hk.2.2⟩)⟩, ⟨by (with_reducible repeat (first | apply Kd.R_alloc | apply Kd.R_drewN | apply Kd.R_drew)); exact Kd.R_mono HO227.out (fun _ hk => ⟨hk.2.1, hk.2.2⟩)⟩, ⟨B_ BK194.out⟩, ⟨B_ BK195.out⟩, ⟨B_ BK212.out⟩, ⟨B_ BK218.out⟩, ⟨B_ BK229.out⟩, ⟨L6_ HB.out GE194.out GE195.out GE212.out GE218.out GE229.out GE229.out⟩⟩
   ·
    replace c53 := Bool.eq_false_iff.mpr c53; subst c53; have H1 : (laws_FnExactAddResult.j0 k t211 t228 true a0_0 a0_1 l0_2 a1_0 a1_1 a1_2 a1_3 t206 t207 t208 t213 t214 t215 t223 t224 t225) = some r := by rw [if_neg (show ¬ (false = true) by decide)] at H; exact H
    clear H; have H := H1; clear H1; have H' := a_ H; clear H; have hnb64 := NB229_194.out; have hnc64 := NB194_229.out; have hnb65 := NB229_195.out; have hnc65 := NB195_229.out; have hnb66 := NB229_212.out; have hnc66 := NB212_229.out; have hnb67 := NB229_218.out; have hnc67 := NB218_229.out; have hcz68_0 : w47.cell? ⟨gb229, 0, none⟩ = some (.int .i64 0) := c_ BK229.out 0; have hcz68_1 : w47.cell? ⟨gb229, 1, none⟩ = some (.int .i64 0) := c_ BK229.out 1; have hcz68_2 : w47.cell? ⟨gb229, 2, none⟩ = some (.slice none 0 0) := c_ BK229.out 2; have hfz68_0 := blk_frozen BK229.out 0; have hfz68_1 := blk_frozen BK229.out 1; have hfz68_2 := blk_frozen BK229.out 2; have hnb69 := NB212_194.out; have hnc69 := NB194_212.out; have hnb70 := NB212_195.out; have hnc70 := NB195_212.out; have hnb71 := NB212_218.out; have hnc71 := NB218_212.out; have hcz72_0 : w47.cell? ⟨gb212, 0, none⟩ = some (.int .i64 t206) := c_ BK212.out 0; have hcz72_1 : w47.cell? ⟨gb212, 1, none⟩ = some (.int .i64 t207) := c_ BK212.out 1; have hcz72_2 : w47.cell? ⟨gb212, 2, none⟩ = some (.slice Ao31 t208.length co31) := c_ BK212.out 2; have hfz72_0 := blk_frozen BK212.out 0; have hfz72_1 := blk_frozen BK212.out 1; have hfz72_2 := blk_frozen BK212.out 2
    go_wp2_with (first | ((with_reducible refine gate_callee (f := 24) rfl ?_); refine goesL_ (some 40) rfl rfl Try.func24 (by kernel_rfl) rfl #[.agg #[.int .i64 t223, .int .i64 t224, .slice Ao50 t225.length co50], .agg #[.int .i64 t206, .int .i64 t207, .slice Ao31 t208.length co31]] rfl (by (try simp only [m1_, m2_, m3_]); first | done | rfl) ?_; (with_reducible refine (laws_eqLeague.calls k t223 t224 _ _ t225 t206 t207 _ _ t208 false _ ?side1 ?side2 ?side3 ?side4 A52.out).mono ?_); (case side1 => refine (Kd.R_reads' (e := 51) (base := w.heap.size) (ok := fun k_ => (some k_ ≠ (v200 : Value).ownBlock ∧ (some k_ ≠ (.slice Ao31 t208.length co31 : Value).ownBlock ∧ some k_ ≠ (.slice Ao41 t215.length co41 : Value).ownBlock))) (n := t225.length) (c := co50) ?_).2.2; exact (by (with_reducible repeat (first | apply Kd.R_alloc | apply Kd.R_drewN | apply Kd.R_drew)); exact (Kd.R_mono (Kd.R_far (p := ⟨gb229, 2, none⟩) (Kd.R_far (p := ⟨gb229, 1, none⟩) (Kd.R_far (p := ⟨gb229, 0, none⟩) (Kd.R_types HO227.out BK229.out (by decide)) (fun _ hk => hk.2) (.int .i64 t223)) (fun _ hk => hk.2) (.int .i64 t224)) (fun _ hk => hk.2) (.slice Ao50 t225.length co50)) (fun _ h_ => h_.1)))); (case side2 => exact (Kd.R_reads' HO227.out).2.1); (case side3 => refine (Kd.R_reads' (e := 51) (base := w.heap.size) (ok := fun k_ => (some k_ ≠ (v200 : Value).ownBlock ∧ (some k_ ≠ (.slice Ao41 t215.length co41 : Value).ownBlock ∧ some k_ ≠ (.slice Ao50 t225.length co50 : Value).ownBlock))) (n := t208.length) (c := co31) ?_).2.2; exact (by (with_reducible repeat (first | apply Kd.R_alloc | apply Kd.R_drewN | apply Kd.R_drew)); exact (Kd.R_mono (Kd.R_far (p := ⟨gb229, 2, none⟩) (Kd.R_far (p := ⟨gb229, 1, none⟩) (Kd.R_far (p := ⟨gb229, 0, none⟩) (Kd.R_types HO210.out BK229.out (by decide)) (fun _ hk => hk.2) (.int .i64 t223)) (fun _ hk => hk.2) (.int .i64 t224)) (fun _ hk => hk.2) (.slice Ao50 t225.length co50)) (fun _ h_ => h_.1)))); (case side4 => exact (Kd.R_reads' HO210.out).2.1); rintro e w73 ⟨rfl, hb⟩; refine ⟨_, rfl, ?_⟩; have n0_ := a_ (Kd.R_below (by (with_reducible repeat (first | apply Kd.R_alloc | apply Kd.R_drewN | apply Kd.R_drew)); exact (Kd.R_mono (Kd.R_far (p := ⟨gb229, 2, none⟩) (Kd.R_far (p := ⟨gb229, 1, none⟩) (Kd.R_far (p := ⟨gb229, 0, none⟩) (Kd.R_types HO201.out BK229.out (by decide)) (fun _ hk => hk.2) (.int .i64 t223)) (fun _ hk => hk.2) (.int .i64 t224)) (fun _ hk => hk.2) (.slice Ao50 t225.length co50)) (fun _ h_ => h_.1))) hb); have n1_ := a_ (Kd.R_below (by (with_reducible repeat (first | apply Kd.R_alloc | apply Kd.R_drewN | apply Kd.R_drew)); exact (Kd.R_mono (Kd.R_far (p := ⟨gb229, 2, none⟩) (Kd.R_far (p := ⟨gb229, 1, none⟩) (Kd.R_far (p := ⟨gb229, 0, none⟩) (Kd.R_types HO210.out BK229.out (by decide)) (fun _ hk => hk.2) (.int .i64 t223)) (fun _ hk => hk.2) (.int .i64 t224)) (fun _ hk => hk.2) (.slice Ao50 t225.length co50)) (fun _ h_ => h_.1))) hb); have n2_ := a_ (Kd.R_below (by (with_reducible repeat (first | apply Kd.R_alloc | apply Kd.R_drewN | apply Kd.R_drew)); exact (Kd.R_mono (Kd.R_far (p := ⟨gb229, 2, none⟩) (Kd.R_far (p := ⟨gb229, 1, none⟩) (Kd.R_far (p := ⟨gb229, 0, none⟩) (Kd.R_types HO217.out BK229.out (by decide)) (fun _ hk => hk.2) (.int .i64 t223)) (fun _ hk => hk.2) (.int .i64 t224)) (fun _ hk => hk.2) (.slice Ao50 t225.length co50)) (fun _ h_ => h_.1))) hb); have n3_ := a_ (Kd.R_below (by (with_reducible repeat (first | apply Kd.R_alloc | apply Kd.R_drewN | apply Kd.R_drew)); exact (Kd.R_mono (Kd.R_far (p := ⟨gb229, 2, none⟩) (Kd.R_far (p := ⟨gb229, 1, none⟩) (Kd.R_far (p := ⟨gb229, 0, none⟩) (Kd.R_types HO227.out BK229.out (by decide)) (fun _ hk => hk.2) (.int .i64 t223)) (fun _ hk => hk.2) (.int .i64 t224)) (fun _ hk => hk.2) (.slice Ao50 t225.length co50)) (fun _ h_ => h_.1))) hb); have n4_ := a_ (blk_below (g := gb194) (o := .cells #[.int .i64 a0_0, .int .i64 a0_1, .slice A0_2 l0_2.length c0_2] 30 (0, 0)) (by (with_reducible repeat (first | refine blk_drewN ?_ _ | refine blk_drew ?_ | refine blk_alloc ?_ _)); refine blk_far ?_ NB194_229.out _; refine blk_far ?_ NB194_229.out _; refine blk_far ?_ NB194_229.out _; exact B_ BK194.out) hb); have n5_ := a_ (blk_below (g := gb195) (o := .cells #[.int .i64 a1_0, .int .i64 a1_1, .int .i64 a1_2, .int .i64 a1_3] 48 (0, 0)) (by (with_reducible repeat (first | refine blk_drewN ?_ _ | refine blk_drew ?_ | refine blk_alloc ?_ _)); refine blk_far ?_ NB195_229.out _; refine blk_far ?_ NB195_229.out _; refine blk_far ?_ NB195_229.out _; exact B_ BK195.out) hb); have n6_ := a_ (blk_below (g := gb212) (o := .cells #[.int .i64 t206, .int .i64 t207, .slice Ao31 t208.length co31] 35 (0, 0)) (by (with_reducible repeat (first | refine blk_drewN ?_ _ | refine blk_drew ?_ | refine blk_alloc ?_ _)); refine blk_far ?_ NB212_229.out _; refine blk_far ?_ NB212_229.out _; refine blk_far ?_ NB212_229.out _; exact B_ BK212.out) hb); have n7_ := a_ (blk_below (g := gb218) (o := .cells #[.int .i64 t213, .int .i64 t214, .slice Ao41 t215.length co41] 35 (0, 0)) (by (with_reducible repeat (first | refine blk_drewN ?_ _ | refine blk_drew ?_ | refine blk_alloc ?_ _)); refine blk_far ?_ NB218_229.out _; refine blk_far ?_ NB218_229.out _; refine blk_far ?_ NB218_229.out _; exact B_ BK218.out) hb); have n8_ := a_ (blk_below (g := gb229) (o := .cells #[.int .i64 t223, .int .i64 t224, .slice Ao50 t225.length co50] 35 (0, 0)) (by (with_reducible repeat (first | refine blk_drewN ?_ _ | refine blk_drew ?_ | refine blk_alloc ?_ _)); refine blk_put (cs := #[.int .i64 t223, .int .i64 t224, .slice none 0 0]) ?_ 2 _ rfl; (with_reducible repeat (first | refine blk_drewN ?_ _ | refine blk_drew ?_ | refine blk_alloc ?_ _)); refine blk_put (cs := #[.int .i64 t223, .int .i64 0, .slice none 0 0]) ?_ 1 _ rfl; (with_reducible repeat (first | refine blk_drewN ?_ _ | refine blk_drew ?_ | refine blk_alloc ?_ _)); refine blk_put (cs := #[.int .i64 0, .int .i64 0, .slice none 0 0]) ?_ 0 _ rfl; exact B_ BK229.out) hb); have n9_ := a_ (below_step (L6_ HB.out GE194.out GE195.out GE212.out GE218.out GE229.out GE229.out) hb); clear HO201; clear HO210; clear HO217; clear HO227; clear BK194; clear BK195; clear BK212; clear BK218; clear BK229; clear HB; have HO201 := n0_; have HO210 := n1_; have HO217 := n2_; have HO227 := n3_; have BK194 := n4_; have BK195 := n5_; have BK212 := n6_; have BK218 := n7_; have BK229 := n8_; have HB := n9_; clear n0_ n1_ n2_ n3_ n4_ n5_ n6_ n7_ n8_ n9_; (try clear hb); (try clear hb2); (try clear hk); (try clear hi)))
    go_meet
    case rel => exact ⟨_, (true), (by first | rfl | (simp; done) | (simp [*]; done)), H', ⟨by first | omega | exact Nat.le_refl _⟩, ⟨by (with_reducible repeat (first | apply Kd.R_alloc | apply Kd.R_drewN | apply Kd.R_drew)); exact Kd.R_mono HO210.out (fun _ hk => ⟨hk.2.1, hk.2.2⟩)⟩, ⟨by (with_reducible repeat (first | apply Kd.R_alloc | apply Kd.R_drewN | apply Kd.R_drew)); exact Kd.R_mono HO217.out (fun _ hk => ⟨hk.2.1, hk.2.2⟩)⟩, ⟨by (with_reducible repeat (first | apply Kd.R_alloc | apply Kd.R_drewN | apply Kd.R_drew)); exact Kd.R_mono HO227.out (fun _ hk => ⟨hk.2.1, hk.2.2⟩)⟩, ⟨B_ BK194.out⟩, ⟨B_ BK195.out⟩, ⟨B_ BK212.out⟩, ⟨B_ BK218.out⟩, ⟨B_ BK229.out⟩, ⟨L6_ HB.out GE194.out GE195.out GE212.out GE218.out GE229.out GE229.out⟩⟩
  case rest =>
   clear HC16; obtain ⟨kq, x46_15, rfl, HA, HJ15, HO_213002, HO_219002, HO_230002, BK194, BK195, BK212, BK218, BK229, HB⟩ := hcut
   cases kq with
   | zero => exact absurd HA.out (by simp [laws_FnExactAddResult.j0])
   | succ kj15 =>
    have H := HA.out; clear HA; simp only [laws_FnExactAddResult.j0] at H
    by_cases c74 : x46_15 = true
    ·
     subst c74; have H1 : (some false) = some r := by rw [if_pos rfl] at H; exact H
     clear H; have H := H1; clear H1; obtain rfl := Option.some.inj H
     go_wp2
     go_ret
     exact ⟨by first | rfl | (simp [errW_none, errW_some] <;> rfl) | (simp [*, errW_none, errW_some] <;> rfl), by repeat (first | (with_reducible first | exact HB.out | apply below_alloc | apply pw_below_drewN | apply below_drew1 | refine below_set ?_ GE194.out | refine below_set ?_ GE195.out | refine below_set ?_ GE212.out | refine below_set ?_ GE218.out | refine below_set ?_ GE229.out) | exact HB.out)⟩
    ·
     replace c74 := Bool.eq_false_iff.mpr c74; subst c74; have H1 : ((laws_toLeague.f kj15 a0_0 a0_1 l0_2).bind fun bt231 => ((laws_eqLeague.f kj15 t213 t214 t215 bt231.1 bt231.2.1 bt231.2.2).bind fun t236 => (if t236 = true then ((laws_markLeague.f kj15 t213 t214 t215 1).bind fun bt237 => (if bt237.1 < 0 then (laws_FnExactAddResult.j1 kj15 t211 true a0_0 a0_1 l0_2 a1_0 a1_1 a1_2 a1_3 t206 t207 t208 t223 t224 t225) else ((laws_eqLeague.f kj15 t223 t224 t225 t206 t207 t208).bind fun t239 => (if t239 = true then (laws_FnExactAddResult.j1 kj15 t211 (t228 != t211) a0_0 a0_1 l0_2 a1_0 a1_1 a1_2 a1_3 t206 t207 t208 t223 t224 t225) else (laws_FnExactAddResult.j1 kj15 t211 true a0_0 a0_1 l0_2 a1_0 a1_1 a1_2 a1_3 t206 t207 t208 t223 t224 t225))))) else (some false)))) = some r := by rw [if_neg (show ¬ (false = true) by decide)] at H; exact H
     clear H; have H := H1; clear H1; replace H := Option.bind_eq_some_iff.mp H; obtain ⟨⟨t231, t232, t233⟩, A750, H⟩ := H; replace H : ((laws_eqLeague.f kj15 t213 t214 t215 t231 t232 t233).bind fun t236 => (if t236 = true then ((laws_markLeague.f kj15 t213 t214 t215 1).bind fun bt237 => (if bt237.1 < 0 then (laws_FnExactAddResult.j1 kj15 t211 true a0_0 a0_1 l0_2 a1_0 a1_1 a1_2 a1_3 t206 t207 t208 t223 t224 t225) else ((laws_eqLeague.f kj15 t223 t224 t225 t206 t207 t208).bind fun t239 => (if t239 = true then (laws_FnExactAddResult.j1 kj15 t211 (t228 != t211) a0_0 a0_1 l0_2 a1_0 a1_1 a1_2 a1_3 t206 t207 t208 t223 t224 t225) else (laws_FnExactAddResult.j1 kj15 t211 true a0_0 a0_1 l0_2 a1_0 a1_1 a1_2 a1_3 t206 t207 t208 t223 t224 t225))))) else (some false))) = some r := H; have A75 := a_ A750; clear A750; replace H := Option.bind_eq_some_iff.mp H; obtain ⟨t236, A760, H⟩ := H; replace H : (if t236 = true then ((laws_markLeague.f kj15 t213 t214 t215 1).bind fun bt237 => (if bt237.1 < 0 then (laws_FnExactAddResult.j1 kj15 t211 true a0_0 a0_1 l0_2 a1_0 a1_1 a1_2 a1_3 t206 t207 t208 t223 t224 t225) else ((laws_eqLeague.f kj15 t223 t224 t225 t206 t207 t208).bind fun t239 => (if t239 = true then (laws_FnExactAddResult.j1 kj15 t211 (t228 != t211) a0_0 a0_1 l0_2 a1_0 a1_1 a1_2 a1_3 t206 t207 t208 t223 t224 t225) else (laws_FnExactAddResult.j1 kj15 t211 true a0_0 a0_1 l0_2 a1_0 a1_1 a1_2 a1_3 t206 t207 t208 t223 t224 t225))))) else (some false)) = some r := H; have A76 := a_ A760; clear A760
     by_cases c77 : t236 = true
     ·
      subst c77; have H1 : ((laws_markLeague.f kj15 t213 t214 t215 1).bind fun bt237 => (if bt237.1 < 0 then (laws_FnExactAddResult.j1 kj15 t211 true a0_0 a0_1 l0_2 a1_0 a1_1 a1_2 a1_3 t206 t207 t208 t223 t224 t225) else ((laws_eqLeague.f kj15 t223 t224 t225 t206 t207 t208).bind fun t239 => (if t239 = true then (laws_FnExactAddResult.j1 kj15 t211 (t228 != t211) a0_0 a0_1 l0_2 a1_0 a1_1 a1_2 a1_3 t206 t207 t208 t223 t224 t225) else (laws_FnExactAddResult.j1 kj15 t211 true a0_0 a0_1 l0_2 a1_0 a1_1 a1_2 a1_3 t206 t207 t208 t223 t224 t225))))) = some r := by rw [if_pos rfl] at H; exact H
      clear H; have H := H1; clear H1; replace H := Option.bind_eq_some_iff.mp H; obtain ⟨⟨t237, t238⟩, A780, H⟩ := H; replace H : (if t237 < 0 then (laws_FnExactAddResult.j1 kj15 t211 true a0_0 a0_1 l0_2 a1_0 a1_1 a1_2 a1_3 t206 t207 t208 t223 t224 t225) else ((laws_eqLeague.f kj15 t223 t224 t225 t206 t207 t208).bind fun t239 => (if t239 = true then (laws_FnExactAddResult.j1 kj15 t211 (t228 != t211) a0_0 a0_1 l0_2 a1_0 a1_1 a1_2 a1_3 t206 t207 t208 t223 t224 t225) else (laws_FnExactAddResult.j1 kj15 t211 true a0_0 a0_1 l0_2 a1_0 a1_1 a1_2 a1_3 t206 t207 t208 t223 t224 t225)))) = some r := H; have A78 := a_ A780; clear A780; have HC79 := a_ H; clear H
      try go_wp2
      have n0_ := a_ (Kd.R_drew HO_213002.out); have n1_ := a_ (Kd.R_drew HO_219002.out); have n2_ := a_ (Kd.R_drew HO_230002.out); have n3_ := a_ (blk_drew BK194.out); have n4_ := a_ (blk_drew BK195.out); have n5_ := a_ (blk_drew BK212.out); have n6_ := a_ (blk_drew BK218.out); have n7_ := a_ (blk_drew BK229.out); have n8_ := a_ (below_drew1 HB.out); clear HO_213002; clear HO_219002; clear HO_230002; clear BK194; clear BK195; clear BK212; clear BK218; clear BK229; clear HB; have HO_213002 := n0_; have HO_219002 := n1_; have HO_230002 := n2_; have BK194 := n3_; have BK195 := n4_; have BK212 := n5_; have BK218 := n6_; have BK229 := n7_; have HB := n8_; clear n0_ n1_ n2_ n3_ n4_ n5_ n6_ n7_ n8_
      refine start_ (n := 5) (S := fun w' => w'.cell? ⟨gb218, 0, none⟩ = some (.int .i64 t213) ∧ w'.cell? ⟨gb218, 1, none⟩ = some (.int .i64 t214) ∧ w'.cell? ⟨gb218, 2, none⟩ = some (.slice Ao41 t215.length co41) ∧ w'.cell? ⟨gb194, 0, none⟩ = some (.int .i64 a0_0) ∧ w'.cell? ⟨gb194, 1, none⟩ = some (.int .i64 a0_1) ∧ w'.cell? ⟨gb194, 2, none⟩ = some (.slice A0_2 l0_2.length c0_2)) (ds := []) #[false, false, false, false, false] (by kernel_rfl) rfl rfl ⟨c_ BK218.out 0, c_ BK218.out 1, c_ BK218.out 2, c_ BK194.out 0, c_ BK194.out 1, c_ BK194.out 2⟩ (fun hHeld => ?_)
      generalize wc.drew = w80 at HO_213002 HO_219002 HO_230002 BK194 BK195 BK212 BK218 BK229 HB hHeld ⊢
      refine take_ (i := 0) (N := some 47) (v := ?_) (a' := ?_) #[true, false, false, false, false] rfl rfl (by kernel_rfl) (fun _ _ _ h => h) (Or.inl ⟨by rfl, ?_⟩) hHeld ?_ ?_
      rotate_left
      ·
       rintro w' ⟨s0, s1, s2, s3, s4, s5⟩
       go_simp
       with_reducible rfl
      rotate_left
      ·
       simp only [Act.put, List.setIfInBounds_toArray, List.set_cons_zero, List.set_cons_succ, i64_w, i32_w]
       rfl
      refine take_ (i := 1) (N := some 48) (v := ?_) (a' := ?_) #[true, true, false, false, false] rfl rfl (by kernel_rfl) (fun _ _ _ h => h) (Or.inl ⟨by rfl, ?_⟩) hHeld ?_ ?_
      rotate_left
      ·
       rintro w' ⟨s0, s1, s2, s3, s4, s5⟩
       go_simp
       with_reducible rfl
      rotate_left
      ·
       simp only [Act.put, List.setIfInBounds_toArray, List.set_cons_zero, List.set_cons_succ, i64_w, i32_w]
       rfl
      refine one_ (i := 2) (N := some 49) #[true, true, true, false, false] rfl rfl (by kernel_rfl) (by decide) (fun K hK => ?_)
      refine goes_ Try.func22 (by kernel_rfl) rfl #[.agg #[.int .i64 a0_0, .int .i64 a0_1, .slice A0_2 l0_2.length c0_2]] (by rfl) rfl rfl (by (try simp only [m1_, m2_, m3_]); first | done | rfl) ?_
      with_reducible refine (laws_toLeague.calls kj15 a0_0 a0_1 _ _ l0_2 t231 t232 t233 _ ?side1 ?side2 A75.out).mono ?_
      (case side1 => repeat (first | exact (Kd.C_below HR0_2.out HB.out) | (with_reducible refine Kd.C_alloc ?_ _) | (with_reducible refine Kd.C_drewN ?_ _) | (with_reducible refine Kd.C_drew ?_)))
      (case side2 => exact HC0_2.out)
      rintro e w81 ⟨v234, rfl, ho0, hb⟩
      refine ⟨_, rfl, ?_⟩
      have n0_ := a_ (Kd.R_elder' (R_ HO_213002.out) (Kd.R_base ho0) hb); have n1_ := a_ (Kd.R_elder' (R_ HO_219002.out) (Kd.R_base ho0) hb); have n2_ := a_ (Kd.R_elder' (R_ HO_230002.out) (Kd.R_base ho0) hb); have n3_ := a_ (Kd.R_lower (Kd.R_new' (Kd.R_new' (Kd.R_new' ho0 (Kd.R_lt (R_ HO_213002.out))) (Kd.R_lt (R_ HO_219002.out))) (Kd.R_lt (R_ HO_230002.out))) (below_size (L6_ HB.out GE194.out GE195.out GE212.out GE218.out GE229.out GE229.out))); have n4_ := bb_ BK194 hb; have n5_ := bb_ BK195 hb; have n6_ := bb_ BK212 hb; have n7_ := bb_ BK218 hb; have n8_ := bb_ BK229 hb; have n9_ := a_ (below_step (L6_ HB.out GE194.out GE195.out GE212.out GE218.out GE229.out GE229.out) hb); clear HO_213002; clear HO_219002; clear HO_230002; clear BK194; clear BK195; clear BK212; clear BK218; clear BK229; clear HB; have HO_213002 := n0_; have HO_219002 := n1_; have HO_230002 := n2_; have HO235 := n3_; have BK194 := n4_; have BK195 := n5_; have BK212 := n6_; have BK218 := n7_; have BK229 := n8_; have HB := n9_; clear n0_ n1_ n2_ n3_ n4_ n5_ n6_ n7_ n8_ n9_
      (try clear hb)
      (try clear hb2)
      (try clear hk)
      (try clear hi)
      (try clear ho0)
      obtain ⟨Ao82, co82, eo82⟩ := Kd.R_slice HO235.out
      (first | subst eo82 | (injection eo82 with f1_ f2_ f3_; have f4_ := f1_.symm; have f5_ := f3_.symm; clear f1_ f2_ f3_; subst f4_; subst f5_))
      refine hK.out _ _ ⟨c_ BK218.out 0, c_ BK218.out 1, c_ BK218.out 2, c_ BK194.out 0, c_ BK194.out 1, c_ BK194.out 2⟩ (fun hHeld => ?_)
      clear hK K
      refine norm_ (a' := ?_) ?_ ?_
      rotate_left
      ·
       show Act.put _ (some 49) _ = _
       simp only [Act.put, List.setIfInBounds_toArray, List.set_cons_zero, List.set_cons_succ, i64_w, i32_w]
       rfl
      refine one_ (i := 3) (N := some 50) #[true, true, true, true, false] rfl rfl (by kernel_rfl) (by decide) (fun K hK => ?_)
      refine goes_ Try.func24 (by kernel_rfl) rfl #[.agg #[.int .i64 t213, .int .i64 t214, .slice Ao41 t215.length co41], .agg #[.int .i64 t231, .int .i64 t232, .slice Ao82 t233.length co82]] (by rfl) rfl rfl (by (try simp only [m1_, m2_, m3_]); first | done | rfl) ?_
      with_reducible refine (laws_eqLeague.calls kj15 t213 t214 _ _ t215 t231 t232 _ _ t233 true _ ?side1 ?side2 ?side3 ?side4 A76.out).mono ?_
      (case side1 => repeat (first | exact (Kd.R_reads' HO_219002.out).2.2 | (with_reducible refine Kd.C_alloc ?_ _) | (with_reducible refine Kd.C_drewN ?_ _) | (with_reducible refine Kd.C_drew ?_)))
      (case side2 => exact (Kd.R_reads' HO_219002.out).2.1)
      (case side3 => repeat (first | exact (Kd.R_reads' HO235.out).2.2 | (with_reducible refine Kd.C_alloc ?_ _) | (with_reducible refine Kd.C_drewN ?_ _) | (with_reducible refine Kd.C_drew ?_)))
      (case side4 => exact (Kd.R_reads' HO235.out).2.1)
      rintro e w83 ⟨rfl, hb⟩
      refine ⟨_, rfl, ?_⟩
      have n0_ := a_ (Kd.R_below (R_ HO_213002.out) hb); have n1_ := a_ (Kd.R_below (R_ HO_219002.out) hb); have n2_ := a_ (Kd.R_below (R_ HO_230002.out) hb); have n3_ := a_ (Kd.R_below (R_ HO235.out) hb); have n4_ := bb_ BK194 hb; have n5_ := bb_ BK195 hb; have n6_ := bb_ BK212 hb; have n7_ := bb_ BK218 hb; have n8_ := bb_ BK229 hb; have n9_ := a_ (below_step (L6_ HB.out GE194.out GE195.out GE212.out GE218.out GE229.out GE229.out) hb); clear HO_213002; clear HO_219002; clear HO_230002; clear HO235; clear BK194; clear BK195; clear BK212; clear BK218; clear BK229; clear HB; have HO_213002 := n0_; have HO_219002 := n1_; have HO_230002 := n2_; have HO235 := n3_; have BK194 := n4_; have BK195 := n5_; have BK212 := n6_; have BK218 := n7_; have BK229 := n8_; have HB := n9_; clear n0_ n1_ n2_ n3_ n4_ n5_ n6_ n7_ n8_ n9_
      (try clear hb)
      (try clear hb2)
      (try clear hk)
      (try clear hi)
      refine hK.out _ _ ⟨c_ BK218.out 0, c_ BK218.out 1, c_ BK218.out 2, c_ BK194.out 0, c_ BK194.out 1, c_ BK194.out 2⟩ (fun hHeld => ?_)
      clear hK K
      refine norm_ (a' := ?_) ?_ ?_
      rotate_left
      ·
       show Act.put _ (some 50) _ = _
       simp only [Act.put, List.setIfInBounds_toArray, List.set_cons_zero, List.set_cons_succ, i64_w, i32_w]
       rfl
      refine pure_ (i := 4) (N := some 51) (v := ?_) (a' := ?_) #[true, true, true, true, true] rfl rfl (by kernel_rfl) (fun _ _ _ h => h) (Or.inl ⟨by rfl, ?_⟩) ?_ ?_
      rotate_left
      ·
       intro w'
       go_simp
       with_reducible rfl
      rotate_left
      ·
       simp only [Act.put, List.setIfInBounds_toArray, List.set_cons_zero, List.set_cons_succ, i64_w, i32_w]
       rfl
      refine done_ (by kernel_rfl) ?_
      have hnb84 := NB218_194.out; have hnc84 := NB194_218.out; have hnb85 := NB218_195.out; have hnc85 := NB195_218.out; have hnb86 := NB218_212.out; have hnc86 := NB212_218.out; have hnb87 := NB218_229.out; have hnc87 := NB229_218.out; have hcz88_0 : w83.cell? ⟨gb218, 0, none⟩ = some (.int .i64 t213) := c_ BK218.out 0; have hcz88_1 : w83.cell? ⟨gb218, 1, none⟩ = some (.int .i64 t214) := c_ BK218.out 1; have hcz88_2 : w83.cell? ⟨gb218, 2, none⟩ = some (.slice Ao41 t215.length co41) := c_ BK218.out 2; have hfz88_0 := blk_frozen BK218.out 0; have hfz88_1 := blk_frozen BK218.out 1; have hfz88_2 := blk_frozen BK218.out 2
      go_upto_region 14 with (first | ((with_reducible refine gate_callee (f := 34) rfl ?_); refine goesL_ (some 54) rfl rfl Try.func34 (by kernel_rfl) rfl #[.agg #[.int .i64 t213, .int .i64 t214, .slice Ao41 t215.length co41], .int .i64 1] rfl (by (try simp only [m1_, m2_, m3_]); first | done | rfl) ?_; (with_reducible refine (laws_markLeague.calls kj15 t213 t214 (fun k_ => some k_ = (.slice Ao41 t215.length co41 : Value).ownBlock) (.slice Ao41 t215.length co41) t215 1 t237 t238 w _ ?side1 ?side2 A78.out).mono ?_); (case side1 => repeat (first | (with_reducible first | exact HB.out | apply below_alloc | apply pw_below_drewN | apply below_drew1 | refine below_set ?_ GE194.out | refine below_set ?_ GE195.out | refine below_set ?_ GE212.out | refine below_set ?_ GE218.out | refine below_set ?_ GE229.out) | exact HB.out)); (case side2 => exact Kd.R_tight rfl HO_219002.out); rintro e w89 ⟨rfl, hy0, hb, hkp⟩; refine ⟨_, rfl, ?_⟩; have n0_ := a_ (Kd.R_mono (ok' := fun k_ => some k_ ≠ (.slice Ao41 t215.length co41 : Value).ownBlock ∧ some k_ ≠ (.slice Ao50 t225.length co50 : Value).ownBlock ∧ some k_ ≠ (.slice Ao82 t233.length co82 : Value).ownBlock) (Kd.R_keptB (HO_213002.out) hkp (fun k_ hk_ hs_ => (hk_.1.1) hs_)) (fun k_ hk_ => ⟨hk_.1.1.1, hk_.1.1.2, hk_.1.2⟩)); have n1_ := a_ (Kd.R_reok rfl hy0 (fun k_ e_ => HO_219002.out.1 k_ e_)); have n2_ := a_ (Kd.R_mono (ok' := fun k_ => some k_ ≠ (.slice Ao31 t208.length co31 : Value).ownBlock ∧ some k_ ≠ (.slice Ao41 t215.length co41 : Value).ownBlock ∧ some k_ ≠ (.slice Ao82 t233.length co82 : Value).ownBlock) (Kd.R_keptB (HO_230002.out) hkp (fun k_ hk_ hs_ => (hk_.1.2) hs_)) (fun k_ hk_ => ⟨hk_.1.1.1, hk_.1.1.2, hk_.1.2⟩)); have n3_ := a_ (blk_kept (B_ BK194.out) hkp (fun hs_ => (fun e_ => (Kd.R_ne HO_219002.out BK194.out (by decide)) e_) hs_)); have n4_ := a_ (blk_kept (B_ BK195.out) hkp (fun hs_ => (fun e_ => (Kd.R_ne HO_219002.out BK195.out (by decide)) e_) hs_)); have n5_ := a_ (blk_kept (B_ BK212.out) hkp (fun hs_ => (fun e_ => (Kd.R_ne HO_219002.out BK212.out (by decide)) e_) hs_)); have n6_ := a_ (blk_kept (B_ BK218.out) hkp (fun hs_ => (fun e_ => (Kd.R_ne HO_219002.out BK218.out (by decide)) e_) hs_)); have n7_ := a_ (blk_kept (B_ BK229.out) hkp (fun hs_ => (fun e_ => (Kd.R_ne HO_219002.out BK229.out (by decide)) e_) hs_)); have n8_ := a_ (Kd.R_mono (ok' := fun k_ => some k_ ≠ (.slice Ao31 t208.length co31 : Value).ownBlock ∧ some k_ ≠ (.slice Ao41 t215.length co41 : Value).ownBlock ∧ some k_ ≠ (.slice Ao50 t225.length co50 : Value).ownBlock) (Kd.R_keptB (HO235.out) hkp (fun k_ hk_ hs_ => (hk_.1.2) hs_)) (fun k_ hk_ => ⟨hk_.1.1.1.2, hk_.1.1.2, hk_.1.2⟩)); have n9_ := a_ (hb); clear HO_213002; clear HO_219002; clear HO_230002; clear BK194; clear BK195; clear BK212; clear BK218; clear BK229; clear HO235; clear HB; have HO_213002 := n0_; have HO_219002 := n1_; have HO_230002 := n2_; have BK194 := n3_; have BK195 := n4_; have BK212 := n5_; have BK218 := n6_; have BK229 := n7_; have HO235 := n8_; have HB := n9_; clear n0_ n1_ n2_ n3_ n4_ n5_ n6_ n7_ n8_ n9_; (try clear hb); (try clear hkp); (try clear hy0)))
      (try simp only [Act.put, List.setIfInBounds_toArray, List.set_cons_zero, List.set_cons_succ])
      go_cut [67] (fun v67 wc => ∃ (kq : Nat) (x67_78 : Bool), v67 = .bool x67_78 ∧ Aside0 (laws_FnExactAddResult.j1 kq t211 x67_78 a0_0 a0_1 l0_2 a1_0 a1_1 a1_2 a1_3 t206 t207 t208 t223 t224 t225 = some r) ∧ Aside0 (kq ≤ kj15) ∧ Aside0 (Kd.R k51 51 wc w.heap.size (fun k_ => some k_ ≠ ((.slice Ao41 t215.length co41) : Value).ownBlock ∧ some k_ ≠ ((.slice Ao50 t225.length co50) : Value).ownBlock) (.slice Ao31 t208.length co31) t208) ∧ Aside0 (Kd.R k51 51 wc w.heap.size (fun k_ => some k_ ≠ ((.slice Ao31 t208.length co31) : Value).ownBlock ∧ some k_ ≠ ((.slice Ao50 t225.length co50) : Value).ownBlock) (.slice Ao41 t215.length co41) t238) ∧ Aside0 (Kd.R k51 51 wc w.heap.size (fun k_ => some k_ ≠ ((.slice Ao31 t208.length co31) : Value).ownBlock ∧ some k_ ≠ ((.slice Ao41 t215.length co41) : Value).ownBlock) (.slice Ao50 t225.length co50) t225) ∧ Aside0 (wc.heap[gb194]? = some (.cells #[.int .i64 a0_0, .int .i64 a0_1, (.slice A0_2 l0_2.length c0_2)] 30 (0, 0))) ∧ Aside0 (wc.heap[gb195]? = some (.cells #[.int .i64 a1_0, .int .i64 a1_1, .int .i64 a1_2, .int .i64 a1_3] 48 (0, 0))) ∧ Aside0 (wc.heap[gb212]? = some (.cells #[.int .i64 t206, .int .i64 t207, (.slice Ao31 t208.length co31)] 35 (0, 0))) ∧ Aside0 (wc.heap[gb218]? = some (.cells #[.int .i64 t213, .int .i64 t214, (.slice Ao41 t215.length co41)] 35 (0, 0))) ∧ Aside0 (wc.heap[gb229]? = some (.cells #[.int .i64 t223, .int .i64 t224, (.slice Ao50 t225.length co50)] 35 (0, 0))) ∧ Aside0 (Below w.heap.size w wc))
      case first =>
       have H := HC79.out; clear HC79
       by_cases c90 : t237 < 0
       ·
        rw [if_pos c90] at H; have c90b0 : decide (t237 < 0) = true := decide_eq_true c90; clear c90
        (first | rw [c90b0] | (simp only [i64_w, i32_w]; rw [c90b0]) | skip)
        have H' := a_ H; clear H
        go_wp2
        go_meet
        case rel => exact ⟨_, (true), (by first | rfl | (simp; done) | (simp [*]; done)), H', ⟨by have := HJ15.out; first | omega | exact Nat.le_refl _⟩, ⟨by (with_reducible repeat (first | apply Kd.R_alloc | apply Kd.R_drewN | apply Kd.R_drew)); exact Kd.R_mono HO_213002.out (fun _ hk => ⟨hk.1, hk.2.1⟩)⟩, ⟨by (with_reducible repeat (first | apply Kd.R_alloc | apply Kd.R_drewN | apply Kd.R_drew)); exact Kd.R_mono HO_219002.out (fun _ hk => ⟨hk.1.1, hk.1.2⟩)⟩, ⟨by (with_reducible repeat (first | apply Kd.R_alloc | apply Kd.R_drewN | apply Kd.R_drew)); exact Kd.R_mono HO_230002.out (fun _ hk => ⟨hk.1, hk.2.1⟩)⟩, ⟨B_ BK194.out⟩, ⟨B_ BK195.out⟩, ⟨B_ BK212.out⟩, ⟨B_ BK218.out⟩, ⟨B_ BK229.out⟩, ⟨L6_ HB.out GE194.out GE195.out GE212.out GE218.out GE229.out GE229.out⟩⟩
       ·
        rw [if_neg c90] at H; have c90b0 : decide (t237 < 0) = false := decide_eq_false c90; clear c90
        (first | rw [c90b0] | (simp only [i64_w, i32_w]; rw [c90b0]) | skip)
        replace H := Option.bind_eq_some_iff.mp H; obtain ⟨t239, A910, H⟩ := H; replace H : (if t239 = true then (laws_FnExactAddResult.j1 kj15 t211 (t228 != t211) a0_0 a0_1 l0_2 a1_0 a1_1 a1_2 a1_3 t206 t207 t208 t223 t224 t225) else (laws_FnExactAddResult.j1 kj15 t211 true a0_0 a0_1 l0_2 a1_0 a1_1 a1_2 a1_3 t206 t207 t208 t223 t224 t225)) = some r := H; have A91 := a_ A910; clear A910
        by_cases c92 : t239 = true
        ·
         subst c92; have H1 : (laws_FnExactAddResult.j1 kj15 t211 (t228 != t211) a0_0 a0_1 l0_2 a1_0 a1_1 a1_2 a1_3 t206 t207 t208 t223 t224 t225) = some r := by rw [if_pos rfl] at H; exact H
         clear H; have H := H1; clear H1; have H' := a_ H; clear H; have hnb93 := NB229_194.out; have hnc93 := NB194_229.out; have hnb94 := NB229_195.out; have hnc94 := NB195_229.out; have hnb95 := NB229_212.out; have hnc95 := NB212_229.out; have hnb96 := NB229_218.out; have hnc96 := NB218_229.out; have hcz97_0 : w89.cell? ⟨gb229, 0, none⟩ = some (.int .i64 t223) := c_ BK229.out 0; have hcz97_1 : w89.cell? ⟨gb229, 1, none⟩ = some (.int .i64 t224) := c_ BK229.out 1; have hcz97_2 : w89.cell? ⟨gb229, 2, none⟩ = some (.slice Ao50 t225.length co50) := c_ BK229.out 2; have hfz97_0 := blk_frozen BK229.out 0; have hfz97_1 := blk_frozen BK229.out 1; have hfz97_2 := blk_frozen BK229.out 2; have hnb98 := NB212_194.out; have hnc98 := NB194_212.out; have hnb99 := NB212_195.out; have hnc99 := NB195_212.out; have hnb100 := NB212_218.out; have hnc100 := NB218_212.out; have hcz101_0 : w89.cell? ⟨gb212, 0, none⟩ = some (.int .i64 t206) := c_ BK212.out 0; have hcz101_1 : w89.cell? ⟨gb212, 1, none⟩ = some (.int .i64 t207) := c_ BK212.out 1; have hcz101_2 : w89.cell? ⟨gb212, 2, none⟩ = some (.slice Ao31 t208.length co31) := c_ BK212.out 2; have hfz101_0 := blk_frozen BK212.out 0; have hfz101_1 := blk_frozen BK212.out 1; have hfz101_2 := blk_frozen BK212.out 2
         go_wp2_with (first | (go_at_call 24; (with_reducible refine (laws_eqLeague.calls kj15 t223 t224 _ _ t225 t206 t207 _ _ t208 true _ ?side1 ?side2 ?side3 ?side4 A91.out).mono ?_); (case side1 => repeat (first | exact (Kd.R_reads' HO_230002.out).2.2 | (with_reducible refine Kd.C_alloc ?_ _) | (with_reducible refine Kd.C_drewN ?_ _) | (with_reducible refine Kd.C_drew ?_))); (case side2 => exact (Kd.R_reads' HO_230002.out).2.1); (case side3 => repeat (first | exact (Kd.R_reads' HO_213002.out).2.2 | (with_reducible refine Kd.C_alloc ?_ _) | (with_reducible refine Kd.C_drewN ?_ _) | (with_reducible refine Kd.C_drew ?_))); (case side4 => exact (Kd.R_reads' HO_213002.out).2.1); rintro e w102 ⟨rfl, hb⟩; have n0_ := a_ (Kd.R_below (R_ HO_213002.out) hb); have n1_ := a_ (Kd.R_below (R_ HO_219002.out) hb); have n2_ := a_ (Kd.R_below (R_ HO_230002.out) hb); have n3_ := a_ (Kd.R_below (R_ HO235.out) hb); have n4_ := bb_ BK194 hb; have n5_ := bb_ BK195 hb; have n6_ := bb_ BK212 hb; have n7_ := bb_ BK218 hb; have n8_ := bb_ BK229 hb; have n9_ := a_ (below_step (L6_ HB.out GE194.out GE195.out GE212.out GE218.out GE229.out GE229.out) hb); clear HO_213002; clear HO_219002; clear HO_230002; clear HO235; clear BK194; clear BK195; clear BK212; clear BK218; clear BK229; clear HB; have HO_213002 := n0_; have HO_219002 := n1_; have HO_230002 := n2_; have HO235 := n3_; have BK194 := n4_; have BK195 := n5_; have BK212 := n6_; have BK218 := n7_; have BK229 := n8_; have HB := n9_; clear n0_ n1_ n2_ n3_ n4_ n5_ n6_ n7_ n8_ n9_; (try clear hb); (try clear hb2); (try clear hk); (try clear hi)))
         go_meet
         case rel => exact ⟨_, ((t228 != t211)), (by first | rfl | (simp; done) | (simp [*]; done)), H', ⟨by have := HJ15.out; first | omega | exact Nat.le_refl _⟩, ⟨by (with_reducible repeat (first | apply Kd.R_alloc | apply Kd.R_drewN | apply Kd.R_drew)); exact Kd.R_mono HO_213002.out (fun _ hk => ⟨hk.1, hk.2.1⟩)⟩, ⟨by (with_reducible repeat (first | apply Kd.R_alloc | apply Kd.R_drewN | apply Kd.R_drew)); exact Kd.R_mono HO_219002.out (fun _ hk => ⟨hk.1.1, hk.1.2⟩)⟩, ⟨by (with_reducible repeat (first | apply Kd.R_alloc | apply Kd.R_drewN | apply Kd.R_drew)); exact Kd.R_mono HO_230002.out (fun _ hk => ⟨hk.1, hk.2.1⟩)⟩, ⟨B_ BK194.out⟩, ⟨B_ BK195.out⟩, ⟨B_ BK212.out⟩, ⟨B_ BK218.out⟩, ⟨B_ BK229.out⟩, ⟨L6_ HB.out GE194.out GE195.out GE212.out GE218.out GE229.out GE229.out⟩⟩
        ·
         replace c92 := Bool.eq_false_iff.mpr c92; subst c92; have H1 : (laws_FnExactAddResult.j1 kj15 t211 true a0_0 a0_1 l0_2 a1_0 a1_1 a1_2 a1_3 t206 t207 t208 t223 t224 t225) = some r := by rw [if_neg (show ¬ (false = true) by decide)] at H; exact H
         clear H; have H := H1; clear H1; have H' := a_ H; clear H; have hnb103 := NB229_194.out; have hnc103 := NB194_229.out; have hnb104 := NB229_195.out; have hnc104 := NB195_229.out; have hnb105 := NB229_212.out; have hnc105 := NB212_229.out; have hnb106 := NB229_218.out; have hnc106 := NB218_229.out; have hcz107_0 : w89.cell? ⟨gb229, 0, none⟩ = some (.int .i64 t223) := c_ BK229.out 0; have hcz107_1 : w89.cell? ⟨gb229, 1, none⟩ = some (.int .i64 t224) := c_ BK229.out 1; have hcz107_2 : w89.cell? ⟨gb229, 2, none⟩ = some (.slice Ao50 t225.length co50) := c_ BK229.out 2; have hfz107_0 := blk_frozen BK229.out 0; have hfz107_1 := blk_frozen BK229.out 1; have hfz107_2 := blk_frozen BK229.out 2; have hnb108 := NB212_194.out; have hnc108 := NB194_212.out; have hnb109 := NB212_195.out; have hnc109 := NB195_212.out; have hnb110 := NB212_218.out; have hnc110 := NB218_212.out; have hcz111_0 : w89.cell? ⟨gb212, 0, none⟩ = some (.int .i64 t206) := c_ BK212.out 0; have hcz111_1 : w89.cell? ⟨gb212, 1, none⟩ = some (.int .i64 t207) := c_ BK212.out 1; have hcz111_2 : w89.cell? ⟨gb212, 2, none⟩ = some (.slice Ao31 t208.length co31) := c_ BK212.out 2; have hfz111_0 := blk_frozen BK212.out 0; have hfz111_1 := blk_frozen BK212.out 1; have hfz111_2 := blk_frozen BK212.out 2
         go_wp2_with (first | (go_at_call 24; (with_reducible refine (laws_eqLeague.calls kj15 t223 t224 _ _ t225 t206 t207 _ _ t208 false _ ?side1 ?side2 ?side3 ?side4 A91.out).mono ?_); (case side1 => repeat (first | exact (Kd.R_reads' HO_230002.out).2.2 | (with_reducible refine Kd.C_alloc ?_ _) | (with_reducible refine Kd.C_drewN ?_ _) | (with_reducible refine Kd.C_drew ?_))); (case side2 => exact (Kd.R_reads' HO_230002.out).2.1); (case side3 => repeat (first | exact (Kd.R_reads' HO_213002.out).2.2 | (with_reducible refine Kd.C_alloc ?_ _) | (with_reducible refine Kd.C_drewN ?_ _) | (with_reducible refine Kd.C_drew ?_))); (case side4 => exact (Kd.R_reads' HO_213002.out).2.1); rintro e w112 ⟨rfl, hb⟩; have n0_ := a_ (Kd.R_below (R_ HO_213002.out) hb); have n1_ := a_ (Kd.R_below (R_ HO_219002.out) hb); have n2_ := a_ (Kd.R_below (R_ HO_230002.out) hb); have n3_ := a_ (Kd.R_below (R_ HO235.out) hb); have n4_ := bb_ BK194 hb; have n5_ := bb_ BK195 hb; have n6_ := bb_ BK212 hb; have n7_ := bb_ BK218 hb; have n8_ := bb_ BK229 hb; have n9_ := a_ (below_step (L6_ HB.out GE194.out GE195.out GE212.out GE218.out GE229.out GE229.out) hb); clear HO_213002; clear HO_219002; clear HO_230002; clear HO235; clear BK194; clear BK195; clear BK212; clear BK218; clear BK229; clear HB; have HO_213002 := n0_; have HO_219002 := n1_; have HO_230002 := n2_; have HO235 := n3_; have BK194 := n4_; have BK195 := n5_; have BK212 := n6_; have BK218 := n7_; have BK229 := n8_; have HB := n9_; clear n0_ n1_ n2_ n3_ n4_ n5_ n6_ n7_ n8_ n9_; (try clear hb); (try clear hb2); (try clear hk); (try clear hi)))
         go_meet
         case rel => exact ⟨_, (true), (by first | rfl | (simp; done) | (simp [*]; done)), H', ⟨by have := HJ15.out; first | omega | exact Nat.le_refl _⟩, ⟨by (with_reducible repeat (first | apply Kd.R_alloc | apply Kd.R_drewN | apply Kd.R_drew)); exact Kd.R_mono HO_213002.out (fun _ hk => ⟨hk.1, hk.2.1⟩)⟩, ⟨by (with_reducible repeat (first | apply Kd.R_alloc | apply Kd.R_drewN | apply Kd.R_drew)); exact Kd.R_mono HO_219002.out (fun _ hk => ⟨hk.1.1, hk.1.2⟩)⟩, ⟨by (with_reducible repeat (first | apply Kd.R_alloc | apply Kd.R_drewN | apply Kd.R_drew)); exact Kd.R_mono HO_230002.out (fun _ hk => ⟨hk.1, hk.2.1⟩)⟩, ⟨B_ BK194.out⟩, ⟨B_ BK195.out⟩, ⟨B_ BK212.out⟩, ⟨B_ BK218.out⟩, ⟨B_ BK229.out⟩, ⟨L6_ HB.out GE194.out GE195.out GE212.out GE218.out GE229.out GE229.out⟩⟩
      case rest =>
       clear HC79; obtain ⟨kq, x67_78, rfl, HA, HJ78, HO_213002, HO_219002, HO_230002, BK194, BK195, BK212, BK218, BK229, HB⟩ := hcut; have hl219002_78 := (Kd.R_reads' HO_219002.out).1; rw [hl219002_78] at HO_219002
       (try simp only [hl219002_78])
       (try simp only [hl219002_78] at BK194)
       (try simp only [hl219002_78] at BK195)
       (try simp only [hl219002_78] at BK212)
       (try simp only [hl219002_78] at BK218)
       (try simp only [hl219002_78] at BK229)
       (try simp only [hl219002_78] at HO_213002)
       (try simp only [hl219002_78] at HO_230002)
       cases kq with
       | zero => exact absurd HA.out (by simp [laws_FnExactAddResult.j1])
       | succ kj78 =>
        have H := HA.out; clear HA; simp only [laws_FnExactAddResult.j1] at H
        by_cases c113 : x67_78 = true
        ·
         subst c113; have H1 : (some false) = some r := by rw [if_pos rfl] at H; exact H
         clear H; have H := H1; clear H1; obtain rfl := Option.some.inj H
         go_wp2
         go_ret
         exact ⟨by first | rfl | (simp [errW_none, errW_some] <;> rfl) | (simp [*, errW_none, errW_some] <;> rfl), by repeat (first | (with_reducible first | exact HB.out | apply below_alloc | apply pw_below_drewN | apply below_drew1 | refine below_set ?_ GE194.out | refine below_set ?_ GE195.out | refine below_set ?_ GE212.out | refine below_set ?_ GE218.out | refine below_set ?_ GE229.out) | exact HB.out)⟩
        ·
         replace c113 := Bool.eq_false_iff.mpr c113; subst c113; have H1 : ((laws_markLeague.f kj78 t223 t224 t225 1).bind fun bt240 => ((laws_heldLeague.f kj78 t223 t224 bt240.2 1).bind fun t242 => (if t242 < 0 then (some false) else (if t242 = bt240.1 then ((laws_toLeague.f kj78 a0_0 a0_1 l0_2).bind fun bt243 => ((laws_toResult.f a1_0 a1_1 a1_2 a1_3).bind fun bt248 => ((impl_AddResult.f kj78 bt243.1 bt243.2.1 bt243.2.2 bt248.1 bt248.2.1 bt248.2.2.1 bt248.2.2.2).bind fun bt252 => ((laws_eqLeague.f kj78 bt252.1 bt252.2.1 bt252.2.2.1 t206 t207 t208).bind fun t259 => (if t259 = true then (laws_FnExactAddResult.j2 kj78 bt240.1 (bt252.2.2.2 != t211) t223 t224 bt240.2) else (laws_FnExactAddResult.j2 kj78 bt240.1 true t223 t224 bt240.2)))))) else (some false))))) = some r := by rw [if_neg (show ¬ (false = true) by decide)] at H; exact H
         clear H; have H := H1; clear H1; replace H := Option.bind_eq_some_iff.mp H; obtain ⟨⟨t240, t241⟩, A1140, H⟩ := H; replace H : ((laws_heldLeague.f kj78 t223 t224 t241 1).bind fun t242 => (if t242 < 0 then (some false) else (if t242 = t240 then ((laws_toLeague.f kj78 a0_0 a0_1 l0_2).bind fun bt243 => ((laws_toResult.f a1_0 a1_1 a1_2 a1_3).bind fun bt248 => ((impl_AddResult.f kj78 bt243.1 bt243.2.1 bt243.2.2 bt248.1 bt248.2.1 bt248.2.2.1 bt248.2.2.2).bind fun bt252 => ((laws_eqLeague.f kj78 bt252.1 bt252.2.1 bt252.2.2.1 t206 t207 t208).bind fun t259 => (if t259 = true then (laws_FnExactAddResult.j2 kj78 t240 (bt252.2.2.2 != t211) t223 t224 t241) else (laws_FnExactAddResult.j2 kj78 t240 true t223 t224 t241)))))) else (some false)))) = some r := H; have A114 := a_ A1140; clear A1140; replace H := Option.bind_eq_some_iff.mp H; obtain ⟨t242, A1150, H⟩ := H; replace H : (if t242 < 0 then (some false) else (if t242 = t240 then ((laws_toLeague.f kj78 a0_0 a0_1 l0_2).bind fun bt243 => ((laws_toResult.f a1_0 a1_1 a1_2 a1_3).bind fun bt248 => ((impl_AddResult.f kj78 bt243.1 bt243.2.1 bt243.2.2 bt248.1 bt248.2.1 bt248.2.2.1 bt248.2.2.2).bind fun bt252 => ((laws_eqLeague.f kj78 bt252.1 bt252.2.1 bt252.2.2.1 t206 t207 t208).bind fun t259 => (if t259 = true then (laws_FnExactAddResult.j2 kj78 t240 (bt252.2.2.2 != t211) t223 t224 t241) else (laws_FnExactAddResult.j2 kj78 t240 true t223 t224 t241)))))) else (some false))) = some r := H; have A115 := a_ A1150; clear A1150
         by_cases c116 : t242 < 0
         ·
          rw [if_pos c116] at H; have c116b0 : decide (t242 < 0) = true := decide_eq_true c116; clear c116; obtain rfl := Option.some.inj H; have hnb117 := NB229_194.out; have hnc117 := NB194_229.out; have hnb118 := NB229_195.out; have hnc118 := NB195_229.out; have hnb119 := NB229_212.out; have hnc119 := NB212_229.out; have hnb120 := NB229_218.out; have hnc120 := NB218_229.out; have hcz121_0 : wc.cell? ⟨gb229, 0, none⟩ = some (.int .i64 t223) := c_ BK229.out 0; have hcz121_1 : wc.cell? ⟨gb229, 1, none⟩ = some (.int .i64 t224) := c_ BK229.out 1; have hcz121_2 : wc.cell? ⟨gb229, 2, none⟩ = some (.slice Ao50 t225.length co50) := c_ BK229.out 2; have hfz121_0 := blk_frozen BK229.out 0; have hfz121_1 := blk_frozen BK229.out 1; have hfz121_2 := blk_frozen BK229.out 2
          go_wp2_with (first | ((with_reducible refine gate_callee (f := 34) rfl ?_); refine goesL_ (some 70) rfl rfl Try.func34 (by kernel_rfl) rfl #[.agg #[.int .i64 t223, .int .i64 t224, .slice Ao50 t225.length co50], .int .i64 1] rfl (by (try simp only [m1_, m2_, m3_]); first | done | rfl) ?_; (with_reducible refine (laws_markLeague.calls kj78 t223 t224 (fun k_ => some k_ = (.slice Ao50 t225.length co50 : Value).ownBlock) (.slice Ao50 t225.length co50) t225 1 t240 t241 w _ ?side1 ?side2 A114.out).mono ?_); (case side1 => repeat (first | (with_reducible first | exact HB.out | apply below_alloc | apply pw_below_drewN | apply below_drew1 | refine below_set ?_ GE194.out | refine below_set ?_ GE195.out | refine below_set ?_ GE212.out | refine below_set ?_ GE218.out | refine below_set ?_ GE229.out) | exact HB.out)); (case side2 => exact Kd.R_tight rfl HO_230002.out); rintro e w122 ⟨rfl, hy0, hb, hkp⟩; refine ⟨_, rfl, ?_⟩; have n0_ := a_ (Kd.R_mono (ok' := fun k_ => some k_ ≠ (.slice Ao41 t238.length co41 : Value).ownBlock ∧ some k_ ≠ (.slice Ao50 t225.length co50 : Value).ownBlock) (Kd.R_keptB (HO_213002.out) hkp (fun k_ hk_ hs_ => (hk_.2) hs_)) (fun k_ hk_ => ⟨hk_.1.1, hk_.1.2⟩)); have n1_ := a_ (Kd.R_mono (ok' := fun k_ => some k_ ≠ (.slice Ao31 t208.length co31 : Value).ownBlock ∧ some k_ ≠ (.slice Ao50 t225.length co50 : Value).ownBlock) (Kd.R_keptB (HO_219002.out) hkp (fun k_ hk_ hs_ => (hk_.2) hs_)) (fun k_ hk_ => ⟨hk_.1.1, hk_.1.2⟩)); have n2_ := a_ (Kd.R_reok rfl hy0 (fun k_ e_ => HO_230002.out.1 k_ e_)); have n3_ := a_ (blk_kept (B_ BK194.out) hkp (fun hs_ => (fun e_ => (Kd.R_ne HO_230002.out BK194.out (by decide)) e_) hs_)); have n4_ := a_ (blk_kept (B_ BK195.out) hkp (fun hs_ => (fun e_ => (Kd.R_ne HO_230002.out BK195.out (by decide)) e_) hs_)); have n5_ := a_ (blk_kept (B_ BK212.out) hkp (fun hs_ => (fun e_ => (Kd.R_ne HO_230002.out BK212.out (by decide)) e_) hs_)); have n6_ := a_ (blk_kept (B_ BK218.out) hkp (fun hs_ => (fun e_ => (Kd.R_ne HO_230002.out BK218.out (by decide)) e_) hs_)); have n7_ := a_ (blk_kept (B_ BK229.out) hkp (fun hs_ => (fun e_ => (Kd.R_ne HO_230002.out BK229.out (by decide)) e_) hs_)); have n8_ := a_ (hb); clear HO_213002; clear HO_219002; clear HO_230002; clear BK194; clear BK195; clear BK212; clear BK218; clear BK229; clear HB; have HO_213002 := n0_; have HO_219002 := n1_; have HO_230002 := n2_; have BK194 := n3_; have BK195 := n4_; have BK212 := n5_; have BK218 := n6_; have BK229 := n7_; have HB := n8_; clear n0_ n1_ n2_ n3_ n4_ n5_ n6_ n7_ n8_; (try clear hb); (try clear hkp); (try clear hy0); have hcz123_0 : w122.cell? ⟨gb229, 0, none⟩ = some (.int .i64 t223) := c_ BK229.out 0; have hcz123_1 : w122.cell? ⟨gb229, 1, none⟩ = some (.int .i64 t224) := c_ BK229.out 1; have hcz123_2 : w122.cell? ⟨gb229, 2, none⟩ = some (.slice Ao50 t225.length co50) := c_ BK229.out 2; have hfz123_0 := blk_frozen BK229.out 0; have hfz123_1 := blk_frozen BK229.out 1; have hfz123_2 := blk_frozen BK229.out 2) | ((with_reducible refine gate_callee (f := 35) rfl ?_); refine goesL_ (some 73) rfl rfl Try.func35 (by kernel_rfl) rfl #[.agg #[.int .i64 t223, .int .i64 t224, .slice Ao50 t241.length co50], .int .i64 1] rfl (by (try simp only [List.map_toArray, List.map_cons, List.map_nil]); first | done | (rw [show t241.length = t225.length from (Kd.R_reads' HO_230002.out).1.symm] <;> rfl) | rfl | (simp only [List.length_drop, List.length_take]; rfl)) ?_; (with_reducible refine (laws_heldLeague.calls kj78 t223 t224 _ _ t241 1 t242 _ ?side1 ?side2 A115.out).mono ?_); (case side1 => repeat (first | exact (Kd.R_reads' HO_230002.out).2.2 | (with_reducible refine Kd.C_alloc ?_ _) | (with_reducible refine Kd.C_drewN ?_ _) | (with_reducible refine Kd.C_drew ?_))); (case side2 => rw [show t241.length = t225.length from (Kd.R_reads' HO_230002.out).1.symm]; exact (Kd.R_reads' HO_230002.out).2.1); rintro e w124 ⟨rfl, hb⟩; refine ⟨_, rfl, ?_⟩; have n0_ := a_ (Kd.R_below (R_ HO_213002.out) hb); have n1_ := a_ (Kd.R_below (R_ HO_219002.out) hb); have n2_ := a_ (Kd.R_below (R_ HO_230002.out) hb); have n3_ := bb_ BK194 hb; have n4_ := bb_ BK195 hb; have n5_ := bb_ BK212 hb; have n6_ := bb_ BK218 hb; have n7_ := bb_ BK229 hb; have n8_ := a_ (below_step (L6_ HB.out GE194.out GE195.out GE212.out GE218.out GE229.out GE229.out) hb); clear HO_213002; clear HO_219002; clear HO_230002; clear BK194; clear BK195; clear BK212; clear BK218; clear BK229; clear HB; have HO_213002 := n0_; have HO_219002 := n1_; have HO_230002 := n2_; have BK194 := n3_; have BK195 := n4_; have BK212 := n5_; have BK218 := n6_; have BK229 := n7_; have HB := n8_; clear n0_ n1_ n2_ n3_ n4_ n5_ n6_ n7_ n8_; (try clear hb); (try clear hb2); (try clear hk); (try clear hi)))
          go_ret
          exact ⟨by first | rfl | (simp [errW_none, errW_some] <;> rfl) | (simp [*, errW_none, errW_some] <;> rfl), by repeat (first | (with_reducible first | exact HB.out | apply below_alloc | apply pw_below_drewN | apply below_drew1 | refine below_set ?_ GE194.out | refine below_set ?_ GE195.out | refine below_set ?_ GE212.out | refine below_set ?_ GE218.out | refine below_set ?_ GE229.out) | exact HB.out)⟩
         ·
          rw [if_neg c116] at H; have c116b0 : decide (t242 < 0) = false := decide_eq_false c116; clear c116
          by_cases c125 : t242 = t240
          ·
           rw [if_pos c125] at H; have c125b0 : (t242 == t240) = true := beq_iff_eq.mpr c125; have c125b1 : (t242 != t240) = false := bne_eq_false_iff_eq.mpr c125; clear c125; replace H := Option.bind_eq_some_iff.mp H; obtain ⟨⟨t243, t244, t245⟩, A1260, H⟩ := H; replace H : ((laws_toResult.f a1_0 a1_1 a1_2 a1_3).bind fun bt248 => ((impl_AddResult.f kj78 t243 t244 t245 bt248.1 bt248.2.1 bt248.2.2.1 bt248.2.2.2).bind fun bt252 => ((laws_eqLeague.f kj78 bt252.1 bt252.2.1 bt252.2.2.1 t206 t207 t208).bind fun t259 => (if t259 = true then (laws_FnExactAddResult.j2 kj78 t240 (bt252.2.2.2 != t211) t223 t224 t241) else (laws_FnExactAddResult.j2 kj78 t240 true t223 t224 t241))))) = some r := H; have A126 := a_ A1260; clear A1260; replace H := Option.bind_eq_some_iff.mp H; obtain ⟨⟨t248, t249, t250, t251⟩, A1270, H⟩ := H; replace H : ((impl_AddResult.f kj78 t243 t244 t245 t248 t249 t250 t251).bind fun bt252 => ((laws_eqLeague.f kj78 bt252.1 bt252.2.1 bt252.2.2.1 t206 t207 t208).bind fun t259 => (if t259 = true then (laws_FnExactAddResult.j2 kj78 t240 (bt252.2.2.2 != t211) t223 t224 t241) else (laws_FnExactAddResult.j2 kj78 t240 true t223 t224 t241)))) = some r := H; have A127 := a_ A1270; clear A1270; replace H := Option.bind_eq_some_iff.mp H; obtain ⟨⟨t252, t253, t254, t257⟩, A1280, H⟩ := H; replace H : ((laws_eqLeague.f kj78 t252 t253 t254 t206 t207 t208).bind fun t259 => (if t259 = true then (laws_FnExactAddResult.j2 kj78 t240 (t257 != t211) t223 t224 t241) else (laws_FnExactAddResult.j2 kj78 t240 true t223 t224 t241))) = some r := H; have A128 := a_ A1280; clear A1280; have HC129 := a_ H; clear H; have hnb130 := NB229_194.out; have hnc130 := NB194_229.out; have hnb131 := NB229_195.out; have hnc131 := NB195_229.out; have hnb132 := NB229_212.out; have hnc132 := NB212_229.out; have hnb133 := NB229_218.out; have hnc133 := NB218_229.out; have hcz134_0 : wc.cell? ⟨gb229, 0, none⟩ = some (.int .i64 t223) := c_ BK229.out 0; have hcz134_1 : wc.cell? ⟨gb229, 1, none⟩ = some (.int .i64 t224) := c_ BK229.out 1; have hcz134_2 : wc.cell? ⟨gb229, 2, none⟩ = some (.slice Ao50 t225.length co50) := c_ BK229.out 2; have hfz134_0 := blk_frozen BK229.out 0; have hfz134_1 := blk_frozen BK229.out 1; have hfz134_2 := blk_frozen BK229.out 2
           try go_wp2_with (first | ((with_reducible refine gate_callee (f := 34) rfl ?_); refine goesL_ (some 70) rfl rfl Try.func34 (by kernel_rfl) rfl #[.agg #[.int .i64 t223, .int .i64 t224, .slice Ao50 t225.length co50], .int .i64 1] rfl (by (try simp only [m1_, m2_, m3_]); first | done | rfl) ?_; (with_reducible refine (laws_markLeague.calls kj78 t223 t224 (fun k_ => some k_ = (.slice Ao50 t225.length co50 : Value).ownBlock) (.slice Ao50 t225.length co50) t225 1 t240 t241 w _ ?side1 ?side2 A114.out).mono ?_); (case side1 => repeat (first | (with_reducible first | exact HB.out | apply below_alloc | apply pw_below_drewN | apply below_drew1 | refine below_set ?_ GE194.out | refine below_set ?_ GE195.out | refine below_set ?_ GE212.out | refine below_set ?_ GE218.out | refine below_set ?_ GE229.out) | exact HB.out)); (case side2 => exact Kd.R_tight rfl HO_230002.out); rintro e w135 ⟨rfl, hy0, hb, hkp⟩; refine ⟨_, rfl, ?_⟩; have n0_ := a_ (Kd.R_mono (ok' := fun k_ => some k_ ≠ (.slice Ao41 t238.length co41 : Value).ownBlock ∧ some k_ ≠ (.slice Ao50 t225.length co50 : Value).ownBlock) (Kd.R_keptB (HO_213002.out) hkp (fun k_ hk_ hs_ => (hk_.2) hs_)) (fun k_ hk_ => ⟨hk_.1.1, hk_.1.2⟩)); have n1_ := a_ (Kd.R_mono (ok' := fun k_ => some k_ ≠ (.slice Ao31 t208.length co31 : Value).ownBlock ∧ some k_ ≠ (.slice Ao50 t225.length co50 : Value).ownBlock) (Kd.R_keptB (HO_219002.out) hkp (fun k_ hk_ hs_ => (hk_.2) hs_)) (fun k_ hk_ => ⟨hk_.1.1, hk_.1.2⟩)); have n2_ := a_ (Kd.R_reok rfl hy0 (fun k_ e_ => HO_230002.out.1 k_ e_)); have n3_ := a_ (blk_kept (B_ BK194.out) hkp (fun hs_ => (fun e_ => (Kd.R_ne HO_230002.out BK194.out (by decide)) e_) hs_)); have n4_ := a_ (blk_kept (B_ BK195.out) hkp (fun hs_ => (fun e_ => (Kd.R_ne HO_230002.out BK195.out (by decide)) e_) hs_)); have n5_ := a_ (blk_kept (B_ BK212.out) hkp (fun hs_ => (fun e_ => (Kd.R_ne HO_230002.out BK212.out (by decide)) e_) hs_)); have n6_ := a_ (blk_kept (B_ BK218.out) hkp (fun hs_ => (fun e_ => (Kd.R_ne HO_230002.out BK218.out (by decide)) e_) hs_)); have n7_ := a_ (blk_kept (B_ BK229.out) hkp (fun hs_ => (fun e_ => (Kd.R_ne HO_230002.out BK229.out (by decide)) e_) hs_)); have n8_ := a_ (hb); clear HO_213002; clear HO_219002; clear HO_230002; clear BK194; clear BK195; clear BK212; clear BK218; clear BK229; clear HB; have HO_213002 := n0_; have HO_219002 := n1_; have HO_230002 := n2_; have BK194 := n3_; have BK195 := n4_; have BK212 := n5_; have BK218 := n6_; have BK229 := n7_; have HB := n8_; clear n0_ n1_ n2_ n3_ n4_ n5_ n6_ n7_ n8_; (try clear hb); (try clear hkp); (try clear hy0); have hcz136_0 : w135.cell? ⟨gb229, 0, none⟩ = some (.int .i64 t223) := c_ BK229.out 0; have hcz136_1 : w135.cell? ⟨gb229, 1, none⟩ = some (.int .i64 t224) := c_ BK229.out 1; have hcz136_2 : w135.cell? ⟨gb229, 2, none⟩ = some (.slice Ao50 t225.length co50) := c_ BK229.out 2; have hfz136_0 := blk_frozen BK229.out 0; have hfz136_1 := blk_frozen BK229.out 1; have hfz136_2 := blk_frozen BK229.out 2) | ((with_reducible refine gate_callee (f := 35) rfl ?_); refine goesL_ (some 73) rfl rfl Try.func35 (by kernel_rfl) rfl #[.agg #[.int .i64 t223, .int .i64 t224, .slice Ao50 t241.length co50], .int .i64 1] rfl (by (try simp only [List.map_toArray, List.map_cons, List.map_nil]); first | done | (rw [show t241.length = t225.length from (Kd.R_reads' HO_230002.out).1.symm] <;> rfl) | rfl | (simp only [List.length_drop, List.length_take]; rfl)) ?_; (with_reducible refine (laws_heldLeague.calls kj78 t223 t224 _ _ t241 1 t242 _ ?side1 ?side2 A115.out).mono ?_); (case side1 => repeat (first | exact (Kd.R_reads' HO_230002.out).2.2 | (with_reducible refine Kd.C_alloc ?_ _) | (with_reducible refine Kd.C_drewN ?_ _) | (with_reducible refine Kd.C_drew ?_))); (case side2 => rw [show t241.length = t225.length from (Kd.R_reads' HO_230002.out).1.symm]; exact (Kd.R_reads' HO_230002.out).2.1); rintro e w137 ⟨rfl, hb⟩; refine ⟨_, rfl, ?_⟩; have n0_ := a_ (Kd.R_below (R_ HO_213002.out) hb); have n1_ := a_ (Kd.R_below (R_ HO_219002.out) hb); have n2_ := a_ (Kd.R_below (R_ HO_230002.out) hb); have n3_ := bb_ BK194 hb; have n4_ := bb_ BK195 hb; have n5_ := bb_ BK212 hb; have n6_ := bb_ BK218 hb; have n7_ := bb_ BK229 hb; have n8_ := a_ (below_step (L6_ HB.out GE194.out GE195.out GE212.out GE218.out GE229.out GE229.out) hb); clear HO_213002; clear HO_219002; clear HO_230002; clear BK194; clear BK195; clear BK212; clear BK218; clear BK229; clear HB; have HO_213002 := n0_; have HO_219002 := n1_; have HO_230002 := n2_; have BK194 := n3_; have BK195 := n4_; have BK212 := n5_; have BK218 := n6_; have BK229 := n7_; have HB := n8_; clear n0_ n1_ n2_ n3_ n4_ n5_ n6_ n7_ n8_; (try clear hb); (try clear hb2); (try clear hk); (try clear hi)))
           have n0_ := a_ (Kd.R_drew HO_213002.out); have n1_ := a_ (Kd.R_drew HO_219002.out); have n2_ := a_ (Kd.R_drew HO_230002.out); have n3_ := a_ (blk_drew BK194.out); have n4_ := a_ (blk_drew BK195.out); have n5_ := a_ (blk_drew BK212.out); have n6_ := a_ (blk_drew BK218.out); have n7_ := a_ (blk_drew BK229.out); have n8_ := a_ (below_drew1 HB.out); clear HO_213002; clear HO_219002; clear HO_230002; clear BK194; clear BK195; clear BK212; clear BK218; clear BK229; clear HB; have HO_213002 := n0_; have HO_219002 := n1_; have HO_230002 := n2_; have BK194 := n3_; have BK195 := n4_; have BK212 := n5_; have BK218 := n6_; have BK229 := n7_; have HB := n8_; clear n0_ n1_ n2_ n3_ n4_ n5_ n6_ n7_ n8_
           refine start_ (n := 11) (S := fun w' => w'.cell? ⟨gb194, 0, none⟩ = some (.int .i64 a0_0) ∧ w'.cell? ⟨gb194, 1, none⟩ = some (.int .i64 a0_1) ∧ w'.cell? ⟨gb194, 2, none⟩ = some (.slice A0_2 l0_2.length c0_2) ∧ w'.cell? ⟨gb195, 0, none⟩ = some (.int .i64 a1_0) ∧ w'.cell? ⟨gb195, 1, none⟩ = some (.int .i64 a1_1) ∧ w'.cell? ⟨gb195, 2, none⟩ = some (.int .i64 a1_2) ∧ w'.cell? ⟨gb195, 3, none⟩ = some (.int .i64 a1_3)) (ds := []) #[false, false, false, false, false, false, false, false, false, false, false] (by kernel_rfl) rfl rfl ⟨c_ BK194.out 0, c_ BK194.out 1, c_ BK194.out 2, c_ BK195.out 0, c_ BK195.out 1, c_ BK195.out 2, c_ BK195.out 3⟩ (fun hHeld => ?_); refine with_tabW laws_FnExactAddResult.tab24 laws_FnExactAddResult.bits24 (fun HT_ HW_ => ?_)
           generalize w137.drew = w138 at HO_213002 HO_219002 HO_230002 BK194 BK195 BK212 BK218 BK229 HB hHeld ⊢
           refine take_ (i := 0) (N := some 80) (v := ?_) (a' := ?_) #[true, false, false, false, false, false, false, false, false, false, false] rfl rfl (take_ofW HT_.out HW_.out (by kernel_rfl)) (fun _ _ _ h => h) (Or.inl ⟨by rfl, ?_⟩) hHeld ?_ ?_
           rotate_left
           ·
            rintro w' ⟨s0, s1, s2, s3, s4, s5, s6⟩
            go_simp
            with_reducible rfl
           rotate_left
           ·
            simp only [Act.put, List.setIfInBounds_toArray, List.set_cons_zero, List.set_cons_succ, i64_w, i32_w]
            rfl
           refine take_ (i := 2) (N := some 82) (v := ?_) (a' := ?_) #[true, false, true, false, false, false, false, false, false, false, false] rfl rfl (take_ofW HT_.out HW_.out (by kernel_rfl)) (fun _ _ _ h => h) (Or.inl ⟨by rfl, ?_⟩) hHeld ?_ ?_
           rotate_left
           ·
            rintro w' ⟨s0, s1, s2, s3, s4, s5, s6⟩
            go_simp
            with_reducible rfl
           rotate_left
           ·
            simp only [Act.put, List.setIfInBounds_toArray, List.set_cons_zero, List.set_cons_succ, i64_w, i32_w]
            rfl
           refine join_ (σ := Value × Value × Nat) 2 #[true, true, true, true, true, true, true, true, true, false, false] (fun s_ => [(81, .agg #[.int .i64 t243, .int .i64 t244, s_.1]), (83, .agg #[.int .i64 t248, .int .i64 t249, .int .i64 t250, .int .i64 t251]), (84, .tuple #[.agg #[.int .i64 t252, .int .i64 t253, s_.2.1], .bool t257]), (14, .pointer (some ⟨s_.2.2, 0, none⟩)), (79, .tuple #[.agg #[.int .i64 t252, .int .i64 t253, s_.2.1], .bool t257]), (85, .agg #[.int .i64 t252, .int .i64 t253, s_.2.1]), (86, .bool t257)]) (fun s_ w' => (w'.cell? ⟨gb194, 0, none⟩ = some (.int .i64 a0_0) ∧ w'.cell? ⟨gb194, 1, none⟩ = some (.int .i64 a0_1) ∧ w'.cell? ⟨gb194, 2, none⟩ = some (.slice A0_2 l0_2.length c0_2) ∧ w'.cell? ⟨gb195, 0, none⟩ = some (.int .i64 a1_0) ∧ w'.cell? ⟨gb195, 1, none⟩ = some (.int .i64 a1_1) ∧ w'.cell? ⟨gb195, 2, none⟩ = some (.int .i64 a1_2) ∧ w'.cell? ⟨gb195, 3, none⟩ = some (.int .i64 a1_3)) ∧ (Kd.R k51 51 w' w.heap.size (fun k_ => some k_ ≠ (s_.2.1 : Value).ownBlock ∧ some k_ ≠ (.slice Ao31 t208.length co31 : Value).ownBlock ∧ some k_ ≠ (.slice Ao41 t238.length co41 : Value).ownBlock ∧ some k_ ≠ (.slice Ao50 t225.length co50 : Value).ownBlock) s_.1 t245) ∧ (Kd.R k51 51 w' w.heap.size (fun k_ => some k_ ≠ (s_.1 : Value).ownBlock ∧ some k_ ≠ (.slice Ao31 t208.length co31 : Value).ownBlock ∧ some k_ ≠ (.slice Ao41 t238.length co41 : Value).ownBlock ∧ some k_ ≠ (.slice Ao50 t225.length co50 : Value).ownBlock) s_.2.1 t254) ∧ (Kd.R k51 51 w' w.heap.size (fun k_ => some k_ ≠ (s_.1 : Value).ownBlock ∧ some k_ ≠ (s_.2.1 : Value).ownBlock ∧ some k_ ≠ (.slice Ao41 t238.length co41 : Value).ownBlock ∧ some k_ ≠ (.slice Ao50 t225.length co50 : Value).ownBlock) (.slice Ao31 t208.length co31) t208) ∧ (Kd.R k51 51 w' w.heap.size (fun k_ => some k_ ≠ (s_.1 : Value).ownBlock ∧ some k_ ≠ (s_.2.1 : Value).ownBlock ∧ some k_ ≠ (.slice Ao31 t208.length co31 : Value).ownBlock ∧ some k_ ≠ (.slice Ao50 t225.length co50 : Value).ownBlock) (.slice Ao41 t238.length co41) t238) ∧ (Kd.R k51 51 w' w.heap.size (fun k_ => some k_ ≠ (s_.1 : Value).ownBlock ∧ some k_ ≠ (s_.2.1 : Value).ownBlock ∧ some k_ ≠ (.slice Ao31 t208.length co31 : Value).ownBlock ∧ some k_ ≠ (.slice Ao41 t238.length co41 : Value).ownBlock) (.slice Ao50 t225.length co50) t241) ∧ (w'.heap[gb194]? = some (.cells #[.int .i64 a0_0, .int .i64 a0_1, .slice A0_2 l0_2.length c0_2] 30 (0, 0))) ∧ (w'.heap[gb195]? = some (.cells #[.int .i64 a1_0, .int .i64 a1_1, .int .i64 a1_2, .int .i64 a1_3] 48 (0, 0))) ∧ (w'.heap[gb212]? = some (.cells #[.int .i64 t206, .int .i64 t207, .slice Ao31 t208.length co31] 35 (0, 0))) ∧ (w'.heap[gb218]? = some (.cells #[.int .i64 t213, .int .i64 t214, .slice Ao41 t238.length co41] 35 (0, 0))) ∧ (w'.heap[gb229]? = some (.cells #[.int .i64 t223, .int .i64 t224, .slice Ao50 t225.length co50] 35 (0, 0))) ∧ (w'.heap[s_.2.2]? = some (.cells #[.int .i64 0, .int .i64 0, .slice none 0 0] 35 (0, 0))) ∧ (w.heap.size ≤ s_.2.2) ∧ (w.heap.size ≤ s_.2.2) ∧ (gb194 ≠ s_.2.2) ∧ (s_.2.2 ≠ gb194) ∧ (gb195 ≠ s_.2.2) ∧ (s_.2.2 ≠ gb195) ∧ (gb212 ≠ s_.2.2) ∧ (s_.2.2 ≠ gb212) ∧ (gb218 ≠ s_.2.2) ∧ (s_.2.2 ≠ gb218) ∧ (gb229 ≠ s_.2.2) ∧ (s_.2.2 ≠ gb229) ∧ (Below w.heap.size w w')) ?_ ?_
           rotate_left
           ·
            intro hCont
            refine two_ (i := 1) (j := 8) (Ni := some 81) (Nj := some 14) #[true, true, true, false, false, false, false, false, false, false, false] #[true, false, true, false, false, false, false, false, true, false, false] rfl rfl rfl rfl (two_of HT_.out (by kernel_rfl)) (by decide) (by decide) (fun K hK => ?_) (fun K hK => ?_)
            ·
             skip
             refine goes_ Try.func22 (by kernel_rfl) rfl #[.agg #[.int .i64 a0_0, .int .i64 a0_1, .slice A0_2 l0_2.length c0_2]] (by rfl) rfl rfl (by (try simp only [m1_, m2_, m3_]); first | done | rfl) ?_
             with_reducible refine (laws_toLeague.calls kj78 a0_0 a0_1 _ _ l0_2 t243 t244 t245 _ ?side1 ?side2 A126.out).mono ?_
             (case side1 => repeat (first | exact (Kd.C_below HR0_2.out HB.out) | (with_reducible refine Kd.C_alloc ?_ _) | (with_reducible refine Kd.C_drewN ?_ _) | (with_reducible refine Kd.C_drew ?_)))
             (case side2 => exact HC0_2.out)
             rintro e w139 ⟨v246, rfl, ho0, hb⟩
             refine ⟨_, rfl, ?_⟩
             have n0_ := a_ (Kd.R_elder' (R_ HO_213002.out) (Kd.R_base ho0) hb); have n1_ := a_ (Kd.R_elder' (R_ HO_219002.out) (Kd.R_base ho0) hb); have n2_ := a_ (Kd.R_elder' (R_ HO_230002.out) (Kd.R_base ho0) hb); have n3_ := a_ (Kd.R_lower (Kd.R_new' (Kd.R_new' (Kd.R_new' ho0 (Kd.R_lt (R_ HO_213002.out))) (Kd.R_lt (R_ HO_219002.out))) (Kd.R_lt (R_ HO_230002.out))) (below_size (L6_ HB.out GE194.out GE195.out GE212.out GE218.out GE229.out GE229.out))); have n4_ := bb_ BK194 hb; have n5_ := bb_ BK195 hb; have n6_ := bb_ BK212 hb; have n7_ := bb_ BK218 hb; have n8_ := bb_ BK229 hb; have n9_ := a_ (below_step (L6_ HB.out GE194.out GE195.out GE212.out GE218.out GE229.out GE229.out) hb); clear HO_213002; clear HO_219002; clear HO_230002; clear BK194; clear BK195; clear BK212; clear BK218; clear BK229; clear HB; have HO_213002 := n0_; have HO_219002 := n1_; have HO_230002 := n2_; have HO247 := n3_; have BK194 := n4_; have BK195 := n5_; have BK212 := n6_; have BK218 := n7_; have BK229 := n8_; have HB := n9_; clear n0_ n1_ n2_ n3_ n4_ n5_ n6_ n7_ n8_ n9_
             (try clear hb)
             (try clear hb2)
             (try clear hk)
             (try clear hi)
             (try clear ho0)
             refine hK.out _ _ ⟨c_ BK194.out 0, c_ BK194.out 1, c_ BK194.out 2, c_ BK195.out 0, c_ BK195.out 1, c_ BK195.out 2, c_ BK195.out 3⟩ (fun hHeld => ?_)
             clear hK K
             refine norm_ (a' := ?_) ?_ ?_
             rotate_left
             ·
              show Act.put _ (some 81) _ = _
              simp only [Act.put, List.setIfInBounds_toArray, List.set_cons_zero, List.set_cons_succ, i64_w, i32_w]
              rfl
             refine two_ (i := 3) (j := 8) (Ni := some 83) (Nj := some 14) #[true, true, true, true, false, false, false, false, false, false, false] #[true, true, true, false, false, false, false, false, true, false, false] rfl rfl rfl rfl (two_of HT_.out (by kernel_rfl)) (by decide) (by decide) (fun K hK => ?_) (fun K hK => ?_)
             ·
              skip
              refine goes_ Try.func32 (by kernel_rfl) rfl #[.agg #[.int .i64 a1_0, .int .i64 a1_1, .int .i64 a1_2, .int .i64 a1_3]] (by rfl) rfl rfl (by (try simp only [m1_, m2_, m3_]); first | done | rfl) ?_
              with_reducible refine (laws_toResult.calls a1_0 a1_1 a1_2 a1_3 t248 t249 t250 t251 _ A127.out).mono ?_
              rintro e w140 ⟨rfl, hb⟩
              refine ⟨_, rfl, ?_⟩
              have n0_ := a_ (Kd.R_below (R_ HO_213002.out) hb); have n1_ := a_ (Kd.R_below (R_ HO_219002.out) hb); have n2_ := a_ (Kd.R_below (R_ HO_230002.out) hb); have n3_ := a_ (Kd.R_below (R_ HO247.out) hb); have n4_ := bb_ BK194 hb; have n5_ := bb_ BK195 hb; have n6_ := bb_ BK212 hb; have n7_ := bb_ BK218 hb; have n8_ := bb_ BK229 hb; have n9_ := a_ (below_step (L6_ HB.out GE194.out GE195.out GE212.out GE218.out GE229.out GE229.out) hb); clear HO_213002; clear HO_219002; clear HO_230002; clear HO247; clear BK194; clear BK195; clear BK212; clear BK218; clear BK229; clear HB; have HO_213002 := n0_; have HO_219002 := n1_; have HO_230002 := n2_; have HO247 := n3_; have BK194 := n4_; have BK195 := n5_; have BK212 := n6_; have BK218 := n7_; have BK229 := n8_; have HB := n9_; clear n0_ n1_ n2_ n3_ n4_ n5_ n6_ n7_ n8_ n9_
              (try clear hb)
              (try clear hb2)
              (try clear hk)
              (try clear hi)
              obtain ⟨Ao141, co141, eo141⟩ := Kd.R_slice HO247.out
              (first | subst eo141 | (injection eo141 with f1_ f2_ f3_; have f4_ := f1_.symm; have f5_ := f3_.symm; clear f1_ f2_ f3_; subst f4_; subst f5_))
              refine hK.out _ _ ⟨c_ BK194.out 0, c_ BK194.out 1, c_ BK194.out 2, c_ BK195.out 0, c_ BK195.out 1, c_ BK195.out 2, c_ BK195.out 3⟩ (fun hHeld => ?_)
              clear hK K
              refine norm_ (a' := ?_) ?_ ?_
              rotate_left
              ·
               show Act.put _ (some 83) _ = _
               simp only [Act.put, List.setIfInBounds_toArray, List.set_cons_zero, List.set_cons_succ, i64_w, i32_w]
               rfl
              refine two_ (i := 4) (j := 8) (Ni := some 84) (Nj := some 14) #[true, true, true, true, true, false, false, false, false, false, false] #[true, true, true, true, false, false, false, false, true, false, false] rfl rfl rfl rfl (two_of HT_.out (by kernel_rfl)) (by decide) (by decide) (fun K hK => ?_) (fun K hK => ?_)
              ·
               skip
               refine goes_ Try.func33 (by kernel_rfl) rfl #[.agg #[.int .i64 t243, .int .i64 t244, .slice Ao141 t245.length co141], .agg #[.int .i64 t248, .int .i64 t249, .int .i64 t250, .int .i64 t251]] (by rfl) rfl rfl (by (try simp only [m1_, m2_, m3_]); first | done | rfl) ?_
               with_reducible refine (impl_AddResult.calls kj78 t243 t244 _ _ t245 t248 t249 t250 t251 t252 t253 t254 t257 _ ?side1 ?side2 A128.out).mono ?_
               (case side1 => repeat (first | exact (Kd.R_reads' HO247.out).2.2 | (with_reducible refine Kd.C_alloc ?_ _) | (with_reducible refine Kd.C_drewN ?_ _) | (with_reducible refine Kd.C_drew ?_)))
               (case side2 => exact (Kd.R_reads' HO247.out).2.1)
               rintro e w142 ⟨v255, rfl, ho0, hb⟩
               refine ⟨_, rfl, ?_⟩
               have n0_ := a_ (Kd.R_elder' (R_ HO_213002.out) (Kd.R_base ho0) hb); have n1_ := a_ (Kd.R_elder' (R_ HO_219002.out) (Kd.R_base ho0) hb); have n2_ := a_ (Kd.R_elder' (R_ HO_230002.out) (Kd.R_base ho0) hb); have n3_ := a_ (Kd.R_elder' (R_ HO247.out) (Kd.R_base ho0) hb); have n4_ := a_ (Kd.R_lower (Kd.R_new' (Kd.R_new' (Kd.R_new' (Kd.R_new' ho0 (Kd.R_lt (R_ HO_213002.out))) (Kd.R_lt (R_ HO_219002.out))) (Kd.R_lt (R_ HO_230002.out))) (Kd.R_lt (R_ HO247.out))) (below_size (L6_ HB.out GE194.out GE195.out GE212.out GE218.out GE229.out GE229.out))); have n5_ := bb_ BK194 hb; have n6_ := bb_ BK195 hb; have n7_ := bb_ BK212 hb; have n8_ := bb_ BK218 hb; have n9_ := bb_ BK229 hb; have n10_ := a_ (below_step (L6_ HB.out GE194.out GE195.out GE212.out GE218.out GE229.out GE229.out) hb); clear HO_213002; clear HO_219002; clear HO_230002; clear HO247; clear BK194; clear BK195; clear BK212; clear BK218; clear BK229; clear HB; have HO_213002 := n0_; have HO_219002 := n1_; have HO_230002 := n2_; have HO247 := n3_; have HO256 := n4_; have BK194 := n5_; have BK195 := n6_; have BK212 := n7_; have BK218 := n8_; have BK229 := n9_; have HB := n10_; clear n0_ n1_ n2_ n3_ n4_ n5_ n6_ n7_ n8_ n9_ n10_
               (try clear hb)
               (try clear hb2)
               (try clear hk)
               (try clear hi)
               (try clear ho0)
               refine hK.out _ _ ⟨c_ BK194.out 0, c_ BK194.out 1, c_ BK194.out 2, c_ BK195.out 0, c_ BK195.out 1, c_ BK195.out 2, c_ BK195.out 3⟩ (fun hHeld => ?_)
               clear hK K
               refine norm_ (a' := ?_) ?_ ?_
               rotate_left
               ·
                show Act.put _ (some 84) _ = _
                simp only [Act.put, List.setIfInBounds_toArray, List.set_cons_zero, List.set_cons_succ, i64_w, i32_w]
                rfl
               refine pure_ (i := 5) (N := some 79) (v := ?_) (a' := ?_) #[true, true, true, true, true, true, false, false, false, false, false] rfl rfl (any_of HT_.out (by kernel_rfl)) (fun _ _ _ h => h) (Or.inl ⟨by rfl, ?_⟩) ?_ ?_
               rotate_left
               ·
                intro w'
                go_simp
                with_reducible rfl
               rotate_left
               ·
                simp only [Act.put, List.setIfInBounds_toArray, List.set_cons_zero, List.set_cons_succ, i64_w, i32_w]
                rfl
               refine pure_ (i := 6) (N := some 85) (v := ?_) (a' := ?_) #[true, true, true, true, true, true, true, false, false, false, false] rfl rfl (any_of HT_.out (by kernel_rfl)) (fun _ _ _ h => h) (Or.inl ⟨by rfl, ?_⟩) ?_ ?_
               rotate_left
               ·
                intro w'
                go_simp
                with_reducible rfl
               rotate_left
               ·
                simp only [Act.put, List.setIfInBounds_toArray, List.set_cons_zero, List.set_cons_succ, i64_w, i32_w]
                rfl
               refine pure_ (i := 7) (N := some 86) (v := ?_) (a' := ?_) #[true, true, true, true, true, true, true, true, false, false, false] rfl rfl (any_of HT_.out (by kernel_rfl)) (fun _ _ _ h => h) (Or.inl ⟨by rfl, ?_⟩) ?_ ?_
               rotate_left
               ·
                intro w'
                go_simp
                with_reducible rfl
               rotate_left
               ·
                simp only [Act.put, List.setIfInBounds_toArray, List.set_cons_zero, List.set_cons_succ, i64_w, i32_w]
                rfl
               refine one_ (i := 8) (N := some 14) #[true, true, true, true, true, true, true, true, true, false, false] rfl rfl (one_of HT_.out (by kernel_rfl)) (by decide) (fun K hK => ?_)
               refine box_step ?hg (N := 14) ?hd (cs := #[.int .i64 0, .int .i64 0, .slice none 0 0]) (t := 35) ?hr ?_; (case hd => rfl); (case hg => rfl); (case hr => first | (go_simp; done) | (go_simp; rfl))
               intro gb258 hg w143 hbox hb
               have n0_ := a_ (Kd.R_below (R_ HO_213002.out) hb); have n1_ := a_ (Kd.R_below (R_ HO_219002.out) hb); have n2_ := a_ (Kd.R_below (R_ HO_230002.out) hb); have n3_ := a_ (Kd.R_below (R_ HO247.out) hb); have n4_ := a_ (Kd.R_below (R_ HO256.out) hb); have n5_ := bb_ BK194 hb; have n6_ := bb_ BK195 hb; have n7_ := bb_ BK212 hb; have n8_ := bb_ BK218 hb; have n9_ := bb_ BK229 hb; have n10_ := a_ (below_step (L6_ HB.out GE194.out GE195.out GE212.out GE218.out GE229.out GE229.out) hb); have n11_ := a_ (hbox); have n12_ := a_ ((by rw [hg]; exact (below_size (L6_ HB.out GE194.out GE195.out GE212.out GE218.out GE229.out GE229.out)) : w.heap.size ≤ gb258)); have n13_ := a_ ((by rw [hg]; exact (below_size (L6_ HB.out GE194.out GE195.out GE212.out GE218.out GE229.out GE229.out)) : w.heap.size ≤ gb258)); have n14_ := a_ ((by rw [hg]; exact Nat.ne_of_lt (blk_lt (B_ BK194.out)) : gb194 ≠ gb258)); have n15_ := a_ ((by rw [hg]; exact Nat.ne_of_gt (blk_lt (B_ BK194.out)) : gb258 ≠ gb194)); have n16_ := a_ ((by rw [hg]; exact Nat.ne_of_lt (blk_lt (B_ BK195.out)) : gb195 ≠ gb258)); have n17_ := a_ ((by rw [hg]; exact Nat.ne_of_gt (blk_lt (B_ BK195.out)) : gb258 ≠ gb195)); have n18_ := a_ ((by rw [hg]; exact Nat.ne_of_lt (blk_lt (B_ BK212.out)) : gb212 ≠ gb258)); have n19_ := a_ ((by rw [hg]; exact Nat.ne_of_gt (blk_lt (B_ BK212.out)) : gb258 ≠ gb212)); have n20_ := a_ ((by rw [hg]; exact Nat.ne_of_lt (blk_lt (B_ BK218.out)) : gb218 ≠ gb258)); have n21_ := a_ ((by rw [hg]; exact Nat.ne_of_gt (blk_lt (B_ BK218.out)) : gb258 ≠ gb218)); have n22_ := a_ ((by rw [hg]; exact Nat.ne_of_lt (blk_lt (B_ BK229.out)) : gb229 ≠ gb258)); have n23_ := a_ ((by rw [hg]; exact Nat.ne_of_gt (blk_lt (B_ BK229.out)) : gb258 ≠ gb229)); clear HO_213002; clear HO_219002; clear HO_230002; clear HO247; clear HO256; clear BK194; clear BK195; clear BK212; clear BK218; clear BK229; clear HB; have HO_213002 := n0_; have HO_219002 := n1_; have HO_230002 := n2_; have HO247 := n3_; have HO256 := n4_; have BK194 := n5_; have BK195 := n6_; have BK212 := n7_; have BK218 := n8_; have BK229 := n9_; have HB := n10_; have BK258 := n11_; have GW258 := n12_; have GE258 := n13_; have NB194_258 := n14_; have NB258_194 := n15_; have NB195_258 := n16_; have NB258_195 := n17_; have NB212_258 := n18_; have NB258_212 := n19_; have NB218_258 := n20_; have NB258_218 := n21_; have NB229_258 := n22_; have NB258_229 := n23_; clear n0_ n1_ n2_ n3_ n4_ n5_ n6_ n7_ n8_ n9_ n10_ n11_ n12_ n13_ n14_ n15_ n16_ n17_ n18_ n19_ n20_ n21_ n22_ n23_; clear hb hbox hg
               refine hK.out _ _ ⟨c_ BK194.out 0, c_ BK194.out 1, c_ BK194.out 2, c_ BK195.out 0, c_ BK195.out 1, c_ BK195.out 2, c_ BK195.out 3⟩ (fun hHeld => ?_)
               clear hK K
               refine norm_ (a' := ?_) ?_ ?_
               rotate_left
               ·
                show Act.put _ (some 14) _ = _
                simp only [Act.put, List.setIfInBounds_toArray, List.set_cons_zero, List.set_cons_succ, i64_w, i32_w]
                rfl
               exact norm_ (by simp only [putAll, Act.put, List.setIfInBounds_toArray, List.set_cons_zero, List.set_cons_succ]) (hCont (.slice Ao141 t245.length co141, v255, gb258) _ ⟨hHeld, (by (with_reducible repeat (first | apply Kd.R_alloc | apply Kd.R_drewN | apply Kd.R_drew)); exact Kd.R_mono HO247.out (fun _ hk => ⟨hk.2, ⟨hk.1.1.1.2, ⟨hk.1.1.2, hk.1.2⟩⟩⟩)), (by (with_reducible repeat (first | apply Kd.R_alloc | apply Kd.R_drewN | apply Kd.R_drew)); exact Kd.R_mono HO256.out (fun _ hk => ⟨hk.2, ⟨hk.1.1.1.2, ⟨hk.1.1.2, hk.1.2⟩⟩⟩)), (by (with_reducible repeat (first | apply Kd.R_alloc | apply Kd.R_drewN | apply Kd.R_drew)); exact Kd.R_mono HO_213002.out (fun _ hk => ⟨hk.1.2, ⟨hk.2, ⟨hk.1.1.1, hk.1.1.2⟩⟩⟩)), (by (with_reducible repeat (first | apply Kd.R_alloc | apply Kd.R_drewN | apply Kd.R_drew)); exact Kd.R_mono HO_219002.out (fun _ hk => ⟨hk.1.2, ⟨hk.2, ⟨hk.1.1.1, hk.1.1.2⟩⟩⟩)), (by (with_reducible repeat (first | apply Kd.R_alloc | apply Kd.R_drewN | apply Kd.R_drew)); exact Kd.R_mono HO_230002.out (fun _ hk => ⟨hk.1.2, ⟨hk.2, ⟨hk.1.1.1, hk.1.1.2⟩⟩⟩)), (B_ BK194.out), (B_ BK195.out), (B_ BK212.out), (B_ BK218.out), (B_ BK229.out), (B_ BK258.out), GW258.out, GE258.out, NB194_258.out, NB258_194.out, NB195_258.out, NB258_195.out, NB212_258.out, NB258_212.out, NB218_258.out, NB258_218.out, NB229_258.out, NB258_229.out, (L6_ HB.out GE194.out GE195.out GE212.out GE218.out GE229.out GE258.out)⟩)
              ·
               skip
               refine box_step ?hg (N := 14) ?hd (cs := #[.int .i64 0, .int .i64 0, .slice none 0 0]) (t := 35) ?hr ?_; (case hd => rfl); (case hg => rfl); (case hr => first | (go_simp; done) | (go_simp; rfl))
               intro gb258 hg w141 hbox hb
               have n0_ := a_ (Kd.R_below (R_ HO_213002.out) hb); have n1_ := a_ (Kd.R_below (R_ HO_219002.out) hb); have n2_ := a_ (Kd.R_below (R_ HO_230002.out) hb); have n3_ := a_ (Kd.R_below (R_ HO247.out) hb); have n4_ := bb_ BK194 hb; have n5_ := bb_ BK195 hb; have n6_ := bb_ BK212 hb; have n7_ := bb_ BK218 hb; have n8_ := bb_ BK229 hb; have n9_ := a_ (below_step (L6_ HB.out GE194.out GE195.out GE212.out GE218.out GE229.out GE229.out) hb); have n10_ := a_ (hbox); have n11_ := a_ ((by rw [hg]; exact (below_size (L6_ HB.out GE194.out GE195.out GE212.out GE218.out GE229.out GE229.out)) : w.heap.size ≤ gb258)); have n12_ := a_ ((by rw [hg]; exact (below_size (L6_ HB.out GE194.out GE195.out GE212.out GE218.out GE229.out GE229.out)) : w.heap.size ≤ gb258)); have n13_ := a_ ((by rw [hg]; exact Nat.ne_of_lt (blk_lt (B_ BK194.out)) : gb194 ≠ gb258)); have n14_ := a_ ((by rw [hg]; exact Nat.ne_of_gt (blk_lt (B_ BK194.out)) : gb258 ≠ gb194)); have n15_ := a_ ((by rw [hg]; exact Nat.ne_of_lt (blk_lt (B_ BK195.out)) : gb195 ≠ gb258)); have n16_ := a_ ((by rw [hg]; exact Nat.ne_of_gt (blk_lt (B_ BK195.out)) : gb258 ≠ gb195)); have n17_ := a_ ((by rw [hg]; exact Nat.ne_of_lt (blk_lt (B_ BK212.out)) : gb212 ≠ gb258)); have n18_ := a_ ((by rw [hg]; exact Nat.ne_of_gt (blk_lt (B_ BK212.out)) : gb258 ≠ gb212)); have n19_ := a_ ((by rw [hg]; exact Nat.ne_of_lt (blk_lt (B_ BK218.out)) : gb218 ≠ gb258)); have n20_ := a_ ((by rw [hg]; exact Nat.ne_of_gt (blk_lt (B_ BK218.out)) : gb258 ≠ gb218)); have n21_ := a_ ((by rw [hg]; exact Nat.ne_of_lt (blk_lt (B_ BK229.out)) : gb229 ≠ gb258)); have n22_ := a_ ((by rw [hg]; exact Nat.ne_of_gt (blk_lt (B_ BK229.out)) : gb258 ≠ gb229)); clear HO_213002; clear HO_219002; clear HO_230002; clear HO247; clear BK194; clear BK195; clear BK212; clear BK218; clear BK229; clear HB; have HO_213002 := n0_; have HO_219002 := n1_; have HO_230002 := n2_; have HO247 := n3_; have BK194 := n4_; have BK195 := n5_; have BK212 := n6_; have BK218 := n7_; have BK229 := n8_; have HB := n9_; have BK258 := n10_; have GW258 := n11_; have GE258 := n12_; have NB194_258 := n13_; have NB258_194 := n14_; have NB195_258 := n15_; have NB258_195 := n16_; have NB212_258 := n17_; have NB258_212 := n18_; have NB218_258 := n19_; have NB258_218 := n20_; have NB229_258 := n21_; have NB258_229 := n22_; clear n0_ n1_ n2_ n3_ n4_ n5_ n6_ n7_ n8_ n9_ n10_ n11_ n12_ n13_ n14_ n15_ n16_ n17_ n18_ n19_ n20_ n21_ n22_; clear hb hbox hg; obtain ⟨Ao142, co142, eo142⟩ := Kd.R_slice HO247.out
               (first | subst eo142 | (injection eo142 with f1_ f2_ f3_; have f4_ := f1_.symm; have f5_ := f3_.symm; clear f1_ f2_ f3_; subst f4_; subst f5_))
               refine hK.out _ _ ⟨c_ BK194.out 0, c_ BK194.out 1, c_ BK194.out 2, c_ BK195.out 0, c_ BK195.out 1, c_ BK195.out 2, c_ BK195.out 3⟩ (fun hHeld => ?_)
               clear hK K
               refine norm_ (a' := ?_) ?_ ?_
               rotate_left
               ·
                show Act.put _ (some 14) _ = _
                simp only [Act.put, List.setIfInBounds_toArray, List.set_cons_zero, List.set_cons_succ, i64_w, i32_w]
                rfl
               refine one_ (i := 4) (N := some 84) #[true, true, true, true, true, false, false, false, true, false, false] rfl rfl (one_of HT_.out (by kernel_rfl)) (by decide) (fun K hK => ?_)
               refine goes_ Try.func33 (by kernel_rfl) rfl #[.agg #[.int .i64 t243, .int .i64 t244, .slice Ao142 t245.length co142], .agg #[.int .i64 t248, .int .i64 t249, .int .i64 t250, .int .i64 t251]] (by rfl) rfl rfl (by (try simp only [m1_, m2_, m3_]); first | done | rfl) ?_
               with_reducible refine (impl_AddResult.calls kj78 t243 t244 _ _ t245 t248 t249 t250 t251 t252 t253 t254 t257 _ ?side1 ?side2 A128.out).mono ?_
               (case side1 => repeat (first | exact (Kd.R_reads' HO247.out).2.2 | (with_reducible refine Kd.C_alloc ?_ _) | (with_reducible refine Kd.C_drewN ?_ _) | (with_reducible refine Kd.C_drew ?_)))
               (case side2 => exact (Kd.R_reads' HO247.out).2.1)
               rintro e w143 ⟨v255, rfl, ho0, hb⟩
               refine ⟨_, rfl, ?_⟩
               have n0_ := a_ (Kd.R_elder' (R_ HO_213002.out) (Kd.R_base ho0) hb); have n1_ := a_ (Kd.R_elder' (R_ HO_219002.out) (Kd.R_base ho0) hb); have n2_ := a_ (Kd.R_elder' (R_ HO_230002.out) (Kd.R_base ho0) hb); have n3_ := a_ (Kd.R_elder' (R_ HO247.out) (Kd.R_base ho0) hb); have n4_ := a_ (Kd.R_lower (Kd.R_new' (Kd.R_new' (Kd.R_new' (Kd.R_new' ho0 (Kd.R_lt (R_ HO_213002.out))) (Kd.R_lt (R_ HO_219002.out))) (Kd.R_lt (R_ HO_230002.out))) (Kd.R_lt (R_ HO247.out))) (below_size (L6_ HB.out GE194.out GE195.out GE212.out GE218.out GE229.out GE258.out))); have n5_ := bb_ BK194 hb; have n6_ := bb_ BK195 hb; have n7_ := bb_ BK212 hb; have n8_ := bb_ BK218 hb; have n9_ := bb_ BK229 hb; have n10_ := bb_ BK258 hb; have n11_ := a_ (below_step (L6_ HB.out GE194.out GE195.out GE212.out GE218.out GE229.out GE258.out) hb); clear HO_213002; clear HO_219002; clear HO_230002; clear HO247; clear BK194; clear BK195; clear BK212; clear BK218; clear BK229; clear BK258; clear HB; have HO_213002 := n0_; have HO_219002 := n1_; have HO_230002 := n2_; have HO247 := n3_; have HO256 := n4_; have BK194 := n5_; have BK195 := n6_; have BK212 := n7_; have BK218 := n8_; have BK229 := n9_; have BK258 := n10_; have HB := n11_; clear n0_ n1_ n2_ n3_ n4_ n5_ n6_ n7_ n8_ n9_ n10_ n11_
               (try clear hb)
               (try clear hb2)
               (try clear hk)
               (try clear hi)
               (try clear ho0)
               refine hK.out _ _ ⟨c_ BK194.out 0, c_ BK194.out 1, c_ BK194.out 2, c_ BK195.out 0, c_ BK195.out 1, c_ BK195.out 2, c_ BK195.out 3⟩ (fun hHeld => ?_)
               clear hK K
               refine norm_ (a' := ?_) ?_ ?_
               rotate_left
               ·
                show Act.put _ (some 84) _ = _
                simp only [Act.put, List.setIfInBounds_toArray, List.set_cons_zero, List.set_cons_succ, i64_w, i32_w]
                rfl
               refine pure_ (i := 5) (N := some 79) (v := ?_) (a' := ?_) #[true, true, true, true, true, true, false, false, true, false, false] rfl rfl (any_of HT_.out (by kernel_rfl)) (fun _ _ _ h => h) (Or.inl ⟨by rfl, ?_⟩) ?_ ?_
               rotate_left
               ·
                intro w'
                go_simp
                with_reducible rfl
               rotate_left
               ·
                simp only [Act.put, List.setIfInBounds_toArray, List.set_cons_zero, List.set_cons_succ, i64_w, i32_w]
                rfl
               refine pure_ (i := 6) (N := some 85) (v := ?_) (a' := ?_) #[true, true, true, true, true, true, true, false, true, false, false] rfl rfl (any_of HT_.out (by kernel_rfl)) (fun _ _ _ h => h) (Or.inl ⟨by rfl, ?_⟩) ?_ ?_
               rotate_left
               ·
                intro w'
                go_simp
                with_reducible rfl
               rotate_left
               ·
                simp only [Act.put, List.setIfInBounds_toArray, List.set_cons_zero, List.set_cons_succ, i64_w, i32_w]
                rfl
               refine pure_ (i := 7) (N := some 86) (v := ?_) (a' := ?_) #[true, true, true, true, true, true, true, true, true, false, false] rfl rfl (any_of HT_.out (by kernel_rfl)) (fun _ _ _ h => h) (Or.inl ⟨by rfl, ?_⟩) ?_ ?_
               rotate_left
               ·
                intro w'
                go_simp
                with_reducible rfl
               rotate_left
               ·
                simp only [Act.put, List.setIfInBounds_toArray, List.set_cons_zero, List.set_cons_succ, i64_w, i32_w]
                rfl
               exact norm_ (by simp only [putAll, Act.put, List.setIfInBounds_toArray, List.set_cons_zero, List.set_cons_succ]) (hCont (.slice Ao142 t245.length co142, v255, gb258) _ ⟨hHeld, (by (with_reducible repeat (first | apply Kd.R_alloc | apply Kd.R_drewN | apply Kd.R_drew)); exact Kd.R_mono HO247.out (fun _ hk => ⟨hk.2, ⟨hk.1.1.1.2, ⟨hk.1.1.2, hk.1.2⟩⟩⟩)), (by (with_reducible repeat (first | apply Kd.R_alloc | apply Kd.R_drewN | apply Kd.R_drew)); exact Kd.R_mono HO256.out (fun _ hk => ⟨hk.2, ⟨hk.1.1.1.2, ⟨hk.1.1.2, hk.1.2⟩⟩⟩)), (by (with_reducible repeat (first | apply Kd.R_alloc | apply Kd.R_drewN | apply Kd.R_drew)); exact Kd.R_mono HO_213002.out (fun _ hk => ⟨hk.1.2, ⟨hk.2, ⟨hk.1.1.1, hk.1.1.2⟩⟩⟩)), (by (with_reducible repeat (first | apply Kd.R_alloc | apply Kd.R_drewN | apply Kd.R_drew)); exact Kd.R_mono HO_219002.out (fun _ hk => ⟨hk.1.2, ⟨hk.2, ⟨hk.1.1.1, hk.1.1.2⟩⟩⟩)), (by (with_reducible repeat (first | apply Kd.R_alloc | apply Kd.R_drewN | apply Kd.R_drew)); exact Kd.R_mono HO_230002.out (fun _ hk => ⟨hk.1.2, ⟨hk.2, ⟨hk.1.1.1, hk.1.1.2⟩⟩⟩)), (B_ BK194.out), (B_ BK195.out), (B_ BK212.out), (B_ BK218.out), (B_ BK229.out), (B_ BK258.out), GW258.out, GE258.out, NB194_258.out, NB258_194.out, NB195_258.out, NB258_195.out, NB212_258.out, NB258_212.out, NB218_258.out, NB258_218.out, NB229_258.out, NB258_229.out, (L6_ HB.out GE194.out GE195.out GE212.out GE218.out GE229.out GE258.out)⟩)
             ·
              skip
              refine box_step ?hg (N := 14) ?hd (cs := #[.int .i64 0, .int .i64 0, .slice none 0 0]) (t := 35) ?hr ?_; (case hd => rfl); (case hg => rfl); (case hr => first | (go_simp; done) | (go_simp; rfl))
              intro gb258 hg w140 hbox hb
              have n0_ := a_ (Kd.R_below (R_ HO_213002.out) hb); have n1_ := a_ (Kd.R_below (R_ HO_219002.out) hb); have n2_ := a_ (Kd.R_below (R_ HO_230002.out) hb); have n3_ := a_ (Kd.R_below (R_ HO247.out) hb); have n4_ := bb_ BK194 hb; have n5_ := bb_ BK195 hb; have n6_ := bb_ BK212 hb; have n7_ := bb_ BK218 hb; have n8_ := bb_ BK229 hb; have n9_ := a_ (below_step (L6_ HB.out GE194.out GE195.out GE212.out GE218.out GE229.out GE229.out) hb); have n10_ := a_ (hbox); have n11_ := a_ ((by rw [hg]; exact (below_size (L6_ HB.out GE194.out GE195.out GE212.out GE218.out GE229.out GE229.out)) : w.heap.size ≤ gb258)); have n12_ := a_ ((by rw [hg]; exact (below_size (L6_ HB.out GE194.out GE195.out GE212.out GE218.out GE229.out GE229.out)) : w.heap.size ≤ gb258)); have n13_ := a_ ((by rw [hg]; exact Nat.ne_of_lt (blk_lt (B_ BK194.out)) : gb194 ≠ gb258)); have n14_ := a_ ((by rw [hg]; exact Nat.ne_of_gt (blk_lt (B_ BK194.out)) : gb258 ≠ gb194)); have n15_ := a_ ((by rw [hg]; exact Nat.ne_of_lt (blk_lt (B_ BK195.out)) : gb195 ≠ gb258)); have n16_ := a_ ((by rw [hg]; exact Nat.ne_of_gt (blk_lt (B_ BK195.out)) : gb258 ≠ gb195)); have n17_ := a_ ((by rw [hg]; exact Nat.ne_of_lt (blk_lt (B_ BK212.out)) : gb212 ≠ gb258)); have n18_ := a_ ((by rw [hg]; exact Nat.ne_of_gt (blk_lt (B_ BK212.out)) : gb258 ≠ gb212)); have n19_ := a_ ((by rw [hg]; exact Nat.ne_of_lt (blk_lt (B_ BK218.out)) : gb218 ≠ gb258)); have n20_ := a_ ((by rw [hg]; exact Nat.ne_of_gt (blk_lt (B_ BK218.out)) : gb258 ≠ gb218)); have n21_ := a_ ((by rw [hg]; exact Nat.ne_of_lt (blk_lt (B_ BK229.out)) : gb229 ≠ gb258)); have n22_ := a_ ((by rw [hg]; exact Nat.ne_of_gt (blk_lt (B_ BK229.out)) : gb258 ≠ gb229)); clear HO_213002; clear HO_219002; clear HO_230002; clear HO247; clear BK194; clear BK195; clear BK212; clear BK218; clear BK229; clear HB; have HO_213002 := n0_; have HO_219002 := n1_; have HO_230002 := n2_; have HO247 := n3_; have BK194 := n4_; have BK195 := n5_; have BK212 := n6_; have BK218 := n7_; have BK229 := n8_; have HB := n9_; have BK258 := n10_; have GW258 := n11_; have GE258 := n12_; have NB194_258 := n13_; have NB258_194 := n14_; have NB195_258 := n15_; have NB258_195 := n16_; have NB212_258 := n17_; have NB258_212 := n18_; have NB218_258 := n19_; have NB258_218 := n20_; have NB229_258 := n21_; have NB258_229 := n22_; clear n0_ n1_ n2_ n3_ n4_ n5_ n6_ n7_ n8_ n9_ n10_ n11_ n12_ n13_ n14_ n15_ n16_ n17_ n18_ n19_ n20_ n21_ n22_; clear hb hbox hg
              refine hK.out _ _ ⟨c_ BK194.out 0, c_ BK194.out 1, c_ BK194.out 2, c_ BK195.out 0, c_ BK195.out 1, c_ BK195.out 2, c_ BK195.out 3⟩ (fun hHeld => ?_)
              clear hK K
              refine norm_ (a' := ?_) ?_ ?_
              rotate_left
              ·
               show Act.put _ (some 14) _ = _
               simp only [Act.put, List.setIfInBounds_toArray, List.set_cons_zero, List.set_cons_succ, i64_w, i32_w]
               rfl
              refine one_ (i := 3) (N := some 83) #[true, true, true, true, false, false, false, false, true, false, false] rfl rfl (one_of HT_.out (by kernel_rfl)) (by decide) (fun K hK => ?_)
              refine goes_ Try.func32 (by kernel_rfl) rfl #[.agg #[.int .i64 a1_0, .int .i64 a1_1, .int .i64 a1_2, .int .i64 a1_3]] (by rfl) rfl rfl (by (try simp only [m1_, m2_, m3_]); first | done | rfl) ?_
              with_reducible refine (laws_toResult.calls a1_0 a1_1 a1_2 a1_3 t248 t249 t250 t251 _ A127.out).mono ?_
              rintro e w141 ⟨rfl, hb⟩
              refine ⟨_, rfl, ?_⟩
              have n0_ := a_ (Kd.R_below (R_ HO_213002.out) hb); have n1_ := a_ (Kd.R_below (R_ HO_219002.out) hb); have n2_ := a_ (Kd.R_below (R_ HO_230002.out) hb); have n3_ := a_ (Kd.R_below (R_ HO247.out) hb); have n4_ := bb_ BK194 hb; have n5_ := bb_ BK195 hb; have n6_ := bb_ BK212 hb; have n7_ := bb_ BK218 hb; have n8_ := bb_ BK229 hb; have n9_ := bb_ BK258 hb; have n10_ := a_ (below_step (L6_ HB.out GE194.out GE195.out GE212.out GE218.out GE229.out GE258.out) hb); clear HO_213002; clear HO_219002; clear HO_230002; clear HO247; clear BK194; clear BK195; clear BK212; clear BK218; clear BK229; clear BK258; clear HB; have HO_213002 := n0_; have HO_219002 := n1_; have HO_230002 := n2_; have HO247 := n3_; have BK194 := n4_; have BK195 := n5_; have BK212 := n6_; have BK218 := n7_; have BK229 := n8_; have BK258 := n9_; have HB := n10_; clear n0_ n1_ n2_ n3_ n4_ n5_ n6_ n7_ n8_ n9_ n10_
              (try clear hb)
              (try clear hb2)
              (try clear hk)
              (try clear hi)
              obtain ⟨Ao142, co142, eo142⟩ := Kd.R_slice HO247.out
              (first | subst eo142 | (injection eo142 with f1_ f2_ f3_; have f4_ := f1_.symm; have f5_ := f3_.symm; clear f1_ f2_ f3_; subst f4_; subst f5_))
              refine hK.out _ _ ⟨c_ BK194.out 0, c_ BK194.out 1, c_ BK194.out 2, c_ BK195.out 0, c_ BK195.out 1, c_ BK195.out 2, c_ BK195.out 3⟩ (fun hHeld => ?_)
              clear hK K
              refine norm_ (a' := ?_) ?_ ?_
              rotate_left
              ·
               show Act.put _ (some 83) _ = _
               simp only [Act.put, List.setIfInBounds_toArray, List.set_cons_zero, List.set_cons_succ, i64_w, i32_w]
               rfl
              refine one_ (i := 4) (N := some 84) #[true, true, true, true, true, false, false, false, true, false, false] rfl rfl (one_of HT_.out (by kernel_rfl)) (by decide) (fun K hK => ?_)
              refine goes_ Try.func33 (by kernel_rfl) rfl #[.agg #[.int .i64 t243, .int .i64 t244, .slice Ao142 t245.length co142], .agg #[.int .i64 t248, .int .i64 t249, .int .i64 t250, .int .i64 t251]] (by rfl) rfl rfl (by (try simp only [m1_, m2_, m3_]); first | done | rfl) ?_
              with_reducible refine (impl_AddResult.calls kj78 t243 t244 _ _ t245 t248 t249 t250 t251 t252 t253 t254 t257 _ ?side1 ?side2 A128.out).mono ?_
              (case side1 => repeat (first | exact (Kd.R_reads' HO247.out).2.2 | (with_reducible refine Kd.C_alloc ?_ _) | (with_reducible refine Kd.C_drewN ?_ _) | (with_reducible refine Kd.C_drew ?_)))
              (case side2 => exact (Kd.R_reads' HO247.out).2.1)
              rintro e w143 ⟨v255, rfl, ho0, hb⟩
              refine ⟨_, rfl, ?_⟩
              have n0_ := a_ (Kd.R_elder' (R_ HO_213002.out) (Kd.R_base ho0) hb); have n1_ := a_ (Kd.R_elder' (R_ HO_219002.out) (Kd.R_base ho0) hb); have n2_ := a_ (Kd.R_elder' (R_ HO_230002.out) (Kd.R_base ho0) hb); have n3_ := a_ (Kd.R_elder' (R_ HO247.out) (Kd.R_base ho0) hb); have n4_ := a_ (Kd.R_lower (Kd.R_new' (Kd.R_new' (Kd.R_new' (Kd.R_new' ho0 (Kd.R_lt (R_ HO_213002.out))) (Kd.R_lt (R_ HO_219002.out))) (Kd.R_lt (R_ HO_230002.out))) (Kd.R_lt (R_ HO247.out))) (below_size (L6_ HB.out GE194.out GE195.out GE212.out GE218.out GE229.out GE258.out))); have n5_ := bb_ BK194 hb; have n6_ := bb_ BK195 hb; have n7_ := bb_ BK212 hb; have n8_ := bb_ BK218 hb; have n9_ := bb_ BK229 hb; have n10_ := bb_ BK258 hb; have n11_ := a_ (below_step (L6_ HB.out GE194.out GE195.out GE212.out GE218.out GE229.out GE258.out) hb); clear HO_213002; clear HO_219002; clear HO_230002; clear HO247; clear BK194; clear BK195; clear BK212; clear BK218; clear BK229; clear BK258; clear HB; have HO_213002 := n0_; have HO_219002 := n1_; have HO_230002 := n2_; have HO247 := n3_; have HO256 := n4_; have BK194 := n5_; have BK195 := n6_; have BK212 := n7_; have BK218 := n8_; have BK229 := n9_; have BK258 := n10_; have HB := n11_; clear n0_ n1_ n2_ n3_ n4_ n5_ n6_ n7_ n8_ n9_ n10_ n11_
              (try clear hb)
              (try clear hb2)
              (try clear hk)
              (try clear hi)
              (try clear ho0)
              refine hK.out _ _ ⟨c_ BK194.out 0, c_ BK194.out 1, c_ BK194.out 2, c_ BK195.out 0, c_ BK195.out 1, c_ BK195.out 2, c_ BK195.out 3⟩ (fun hHeld => ?_)
              clear hK K
              refine norm_ (a' := ?_) ?_ ?_
              rotate_left
              ·
               show Act.put _ (some 84) _ = _
               simp only [Act.put, List.setIfInBounds_toArray, List.set_cons_zero, List.set_cons_succ, i64_w, i32_w]
               rfl
              refine pure_ (i := 5) (N := some 79) (v := ?_) (a' := ?_) #[true, true, true, true, true, true, false, false, true, false, false] rfl rfl (any_of HT_.out (by kernel_rfl)) (fun _ _ _ h => h) (Or.inl ⟨by rfl, ?_⟩) ?_ ?_
              rotate_left
              ·
               intro w'
               go_simp
               with_reducible rfl
              rotate_left
              ·
               simp only [Act.put, List.setIfInBounds_toArray, List.set_cons_zero, List.set_cons_succ, i64_w, i32_w]
               rfl
              refine pure_ (i := 6) (N := some 85) (v := ?_) (a' := ?_) #[true, true, true, true, true, true, true, false, true, false, false] rfl rfl (any_of HT_.out (by kernel_rfl)) (fun _ _ _ h => h) (Or.inl ⟨by rfl, ?_⟩) ?_ ?_
              rotate_left
              ·
               intro w'
               go_simp
               with_reducible rfl
              rotate_left
              ·
               simp only [Act.put, List.setIfInBounds_toArray, List.set_cons_zero, List.set_cons_succ, i64_w, i32_w]
               rfl
              refine pure_ (i := 7) (N := some 86) (v := ?_) (a' := ?_) #[true, true, true, true, true, true, true, true, true, false, false] rfl rfl (any_of HT_.out (by kernel_rfl)) (fun _ _ _ h => h) (Or.inl ⟨by rfl, ?_⟩) ?_ ?_
              rotate_left
              ·
               intro w'
               go_simp
               with_reducible rfl
              rotate_left
              ·
               simp only [Act.put, List.setIfInBounds_toArray, List.set_cons_zero, List.set_cons_succ, i64_w, i32_w]
               rfl
              exact norm_ (by simp only [putAll, Act.put, List.setIfInBounds_toArray, List.set_cons_zero, List.set_cons_succ]) (hCont (.slice Ao142 t245.length co142, v255, gb258) _ ⟨hHeld, (by (with_reducible repeat (first | apply Kd.R_alloc | apply Kd.R_drewN | apply Kd.R_drew)); exact Kd.R_mono HO247.out (fun _ hk => ⟨hk.2, ⟨hk.1.1.1.2, ⟨hk.1.1.2, hk.1.2⟩⟩⟩)), (by (with_reducible repeat (first | apply Kd.R_alloc | apply Kd.R_drewN | apply Kd.R_drew)); exact Kd.R_mono HO256.out (fun _ hk => ⟨hk.2, ⟨hk.1.1.1.2, ⟨hk.1.1.2, hk.1.2⟩⟩⟩)), (by (with_reducible repeat (first | apply Kd.R_alloc | apply Kd.R_drewN | apply Kd.R_drew)); exact Kd.R_mono HO_213002.out (fun _ hk => ⟨hk.1.2, ⟨hk.2, ⟨hk.1.1.1, hk.1.1.2⟩⟩⟩)), (by (with_reducible repeat (first | apply Kd.R_alloc | apply Kd.R_drewN | apply Kd.R_drew)); exact Kd.R_mono HO_219002.out (fun _ hk => ⟨hk.1.2, ⟨hk.2, ⟨hk.1.1.1, hk.1.1.2⟩⟩⟩)), (by (with_reducible repeat (first | apply Kd.R_alloc | apply Kd.R_drewN | apply Kd.R_drew)); exact Kd.R_mono HO_230002.out (fun _ hk => ⟨hk.1.2, ⟨hk.2, ⟨hk.1.1.1, hk.1.1.2⟩⟩⟩)), (B_ BK194.out), (B_ BK195.out), (B_ BK212.out), (B_ BK218.out), (B_ BK229.out), (B_ BK258.out), GW258.out, GE258.out, NB194_258.out, NB258_194.out, NB195_258.out, NB258_195.out, NB212_258.out, NB258_212.out, NB218_258.out, NB258_218.out, NB229_258.out, NB258_229.out, (L6_ HB.out GE194.out GE195.out GE212.out GE218.out GE229.out GE258.out)⟩)
            ·
             skip
             refine box_step ?hg (N := 14) ?hd (cs := #[.int .i64 0, .int .i64 0, .slice none 0 0]) (t := 35) ?hr ?_; (case hd => rfl); (case hg => rfl); (case hr => first | (go_simp; done) | (go_simp; rfl))
             intro gb258 hg w139 hbox hb
             have n0_ := a_ (Kd.R_below (R_ HO_213002.out) hb); have n1_ := a_ (Kd.R_below (R_ HO_219002.out) hb); have n2_ := a_ (Kd.R_below (R_ HO_230002.out) hb); have n3_ := bb_ BK194 hb; have n4_ := bb_ BK195 hb; have n5_ := bb_ BK212 hb; have n6_ := bb_ BK218 hb; have n7_ := bb_ BK229 hb; have n8_ := a_ (below_step (L6_ HB.out GE194.out GE195.out GE212.out GE218.out GE229.out GE229.out) hb); have n9_ := a_ (hbox); have n10_ := a_ ((by rw [hg]; exact (below_size (L6_ HB.out GE194.out GE195.out GE212.out GE218.out GE229.out GE229.out)) : w.heap.size ≤ gb258)); have n11_ := a_ ((by rw [hg]; exact (below_size (L6_ HB.out GE194.out GE195.out GE212.out GE218.out GE229.out GE229.out)) : w.heap.size ≤ gb258)); have n12_ := a_ ((by rw [hg]; exact Nat.ne_of_lt (blk_lt (B_ BK194.out)) : gb194 ≠ gb258)); have n13_ := a_ ((by rw [hg]; exact Nat.ne_of_gt (blk_lt (B_ BK194.out)) : gb258 ≠ gb194)); have n14_ := a_ ((by rw [hg]; exact Nat.ne_of_lt (blk_lt (B_ BK195.out)) : gb195 ≠ gb258)); have n15_ := a_ ((by rw [hg]; exact Nat.ne_of_gt (blk_lt (B_ BK195.out)) : gb258 ≠ gb195)); have n16_ := a_ ((by rw [hg]; exact Nat.ne_of_lt (blk_lt (B_ BK212.out)) : gb212 ≠ gb258)); have n17_ := a_ ((by rw [hg]; exact Nat.ne_of_gt (blk_lt (B_ BK212.out)) : gb258 ≠ gb212)); have n18_ := a_ ((by rw [hg]; exact Nat.ne_of_lt (blk_lt (B_ BK218.out)) : gb218 ≠ gb258)); have n19_ := a_ ((by rw [hg]; exact Nat.ne_of_gt (blk_lt (B_ BK218.out)) : gb258 ≠ gb218)); have n20_ := a_ ((by rw [hg]; exact Nat.ne_of_lt (blk_lt (B_ BK229.out)) : gb229 ≠ gb258)); have n21_ := a_ ((by rw [hg]; exact Nat.ne_of_gt (blk_lt (B_ BK229.out)) : gb258 ≠ gb229)); clear HO_213002; clear HO_219002; clear HO_230002; clear BK194; clear BK195; clear BK212; clear BK218; clear BK229; clear HB; have HO_213002 := n0_; have HO_219002 := n1_; have HO_230002 := n2_; have BK194 := n3_; have BK195 := n4_; have BK212 := n5_; have BK218 := n6_; have BK229 := n7_; have HB := n8_; have BK258 := n9_; have GW258 := n10_; have GE258 := n11_; have NB194_258 := n12_; have NB258_194 := n13_; have NB195_258 := n14_; have NB258_195 := n15_; have NB212_258 := n16_; have NB258_212 := n17_; have NB218_258 := n18_; have NB258_218 := n19_; have NB229_258 := n20_; have NB258_229 := n21_; clear n0_ n1_ n2_ n3_ n4_ n5_ n6_ n7_ n8_ n9_ n10_ n11_ n12_ n13_ n14_ n15_ n16_ n17_ n18_ n19_ n20_ n21_; clear hb hbox hg
             refine hK.out _ _ ⟨c_ BK194.out 0, c_ BK194.out 1, c_ BK194.out 2, c_ BK195.out 0, c_ BK195.out 1, c_ BK195.out 2, c_ BK195.out 3⟩ (fun hHeld => ?_)
             clear hK K
             refine norm_ (a' := ?_) ?_ ?_
             rotate_left
             ·
              show Act.put _ (some 14) _ = _
              simp only [Act.put, List.setIfInBounds_toArray, List.set_cons_zero, List.set_cons_succ, i64_w, i32_w]
              rfl
             refine one_ (i := 1) (N := some 81) #[true, true, true, false, false, false, false, false, true, false, false] rfl rfl (one_of HT_.out (by kernel_rfl)) (by decide) (fun K hK => ?_)
             refine goes_ Try.func22 (by kernel_rfl) rfl #[.agg #[.int .i64 a0_0, .int .i64 a0_1, .slice A0_2 l0_2.length c0_2]] (by rfl) rfl rfl (by (try simp only [m1_, m2_, m3_]); first | done | rfl) ?_
             with_reducible refine (laws_toLeague.calls kj78 a0_0 a0_1 _ _ l0_2 t243 t244 t245 _ ?side1 ?side2 A126.out).mono ?_
             (case side1 => repeat (first | exact (Kd.C_below HR0_2.out HB.out) | (with_reducible refine Kd.C_alloc ?_ _) | (with_reducible refine Kd.C_drewN ?_ _) | (with_reducible refine Kd.C_drew ?_)))
             (case side2 => exact HC0_2.out)
             rintro e w140 ⟨v246, rfl, ho0, hb⟩
             refine ⟨_, rfl, ?_⟩
             have n0_ := a_ (Kd.R_elder' (R_ HO_213002.out) (Kd.R_base ho0) hb); have n1_ := a_ (Kd.R_elder' (R_ HO_219002.out) (Kd.R_base ho0) hb); have n2_ := a_ (Kd.R_elder' (R_ HO_230002.out) (Kd.R_base ho0) hb); have n3_ := a_ (Kd.R_lower (Kd.R_new' (Kd.R_new' (Kd.R_new' ho0 (Kd.R_lt (R_ HO_213002.out))) (Kd.R_lt (R_ HO_219002.out))) (Kd.R_lt (R_ HO_230002.out))) (below_size (L6_ HB.out GE194.out GE195.out GE212.out GE218.out GE229.out GE258.out))); have n4_ := bb_ BK194 hb; have n5_ := bb_ BK195 hb; have n6_ := bb_ BK212 hb; have n7_ := bb_ BK218 hb; have n8_ := bb_ BK229 hb; have n9_ := bb_ BK258 hb; have n10_ := a_ (below_step (L6_ HB.out GE194.out GE195.out GE212.out GE218.out GE229.out GE258.out) hb); clear HO_213002; clear HO_219002; clear HO_230002; clear BK194; clear BK195; clear BK212; clear BK218; clear BK229; clear BK258; clear HB; have HO_213002 := n0_; have HO_219002 := n1_; have HO_230002 := n2_; have HO247 := n3_; have BK194 := n4_; have BK195 := n5_; have BK212 := n6_; have BK218 := n7_; have BK229 := n8_; have BK258 := n9_; have HB := n10_; clear n0_ n1_ n2_ n3_ n4_ n5_ n6_ n7_ n8_ n9_ n10_
             (try clear hb)
             (try clear hb2)
             (try clear hk)
             (try clear hi)
             (try clear ho0)
             refine hK.out _ _ ⟨c_ BK194.out 0, c_ BK194.out 1, c_ BK194.out 2, c_ BK195.out 0, c_ BK195.out 1, c_ BK195.out 2, c_ BK195.out 3⟩ (fun hHeld => ?_)
             clear hK K
             refine norm_ (a' := ?_) ?_ ?_
             rotate_left
             ·
              show Act.put _ (some 81) _ = _
              simp only [Act.put, List.setIfInBounds_toArray, List.set_cons_zero, List.set_cons_succ, i64_w, i32_w]
              rfl
             refine one_ (i := 3) (N := some 83) #[true, true, true, true, false, false, false, false, true, false, false] rfl rfl (one_of HT_.out (by kernel_rfl)) (by decide) (fun K hK => ?_)
             refine goes_ Try.func32 (by kernel_rfl) rfl #[.agg #[.int .i64 a1_0, .int .i64 a1_1, .int .i64 a1_2, .int .i64 a1_3]] (by rfl) rfl rfl (by (try simp only [m1_, m2_, m3_]); first | done | rfl) ?_
             with_reducible refine (laws_toResult.calls a1_0 a1_1 a1_2 a1_3 t248 t249 t250 t251 _ A127.out).mono ?_
             rintro e w141 ⟨rfl, hb⟩
             refine ⟨_, rfl, ?_⟩
             have n0_ := a_ (Kd.R_below (R_ HO_213002.out) hb); have n1_ := a_ (Kd.R_below (R_ HO_219002.out) hb); have n2_ := a_ (Kd.R_below (R_ HO_230002.out) hb); have n3_ := a_ (Kd.R_below (R_ HO247.out) hb); have n4_ := bb_ BK194 hb; have n5_ := bb_ BK195 hb; have n6_ := bb_ BK212 hb; have n7_ := bb_ BK218 hb; have n8_ := bb_ BK229 hb; have n9_ := bb_ BK258 hb; have n10_ := a_ (below_step (L6_ HB.out GE194.out GE195.out GE212.out GE218.out GE229.out GE258.out) hb); clear HO_213002; clear HO_219002; clear HO_230002; clear HO247; clear BK194; clear BK195; clear BK212; clear BK218; clear BK229; clear BK258; clear HB; have HO_213002 := n0_; have HO_219002 := n1_; have HO_230002 := n2_; have HO247 := n3_; have BK194 := n4_; have BK195 := n5_; have BK212 := n6_; have BK218 := n7_; have BK229 := n8_; have BK258 := n9_; have HB := n10_; clear n0_ n1_ n2_ n3_ n4_ n5_ n6_ n7_ n8_ n9_ n10_
             (try clear hb)
             (try clear hb2)
             (try clear hk)
             (try clear hi)
             obtain ⟨Ao142, co142, eo142⟩ := Kd.R_slice HO247.out
             (first | subst eo142 | (injection eo142 with f1_ f2_ f3_; have f4_ := f1_.symm; have f5_ := f3_.symm; clear f1_ f2_ f3_; subst f4_; subst f5_))
             refine hK.out _ _ ⟨c_ BK194.out 0, c_ BK194.out 1, c_ BK194.out 2, c_ BK195.out 0, c_ BK195.out 1, c_ BK195.out 2, c_ BK195.out 3⟩ (fun hHeld => ?_)
             clear hK K
             refine norm_ (a' := ?_) ?_ ?_
             rotate_left
             ·
              show Act.put _ (some 83) _ = _
              simp only [Act.put, List.setIfInBounds_toArray, List.set_cons_zero, List.set_cons_succ, i64_w, i32_w]
              rfl
             refine one_ (i := 4) (N := some 84) #[true, true, true, true, true, false, false, false, true, false, false] rfl rfl (one_of HT_.out (by kernel_rfl)) (by decide) (fun K hK => ?_)
             refine goes_ Try.func33 (by kernel_rfl) rfl #[.agg #[.int .i64 t243, .int .i64 t244, .slice Ao142 t245.length co142], .agg #[.int .i64 t248, .int .i64 t249, .int .i64 t250, .int .i64 t251]] (by rfl) rfl rfl (by (try simp only [m1_, m2_, m3_]); first | done | rfl) ?_
             with_reducible refine (impl_AddResult.calls kj78 t243 t244 _ _ t245 t248 t249 t250 t251 t252 t253 t254 t257 _ ?side1 ?side2 A128.out).mono ?_
             (case side1 => repeat (first | exact (Kd.R_reads' HO247.out).2.2 | (with_reducible refine Kd.C_alloc ?_ _) | (with_reducible refine Kd.C_drewN ?_ _) | (with_reducible refine Kd.C_drew ?_)))
             (case side2 => exact (Kd.R_reads' HO247.out).2.1)
             rintro e w143 ⟨v255, rfl, ho0, hb⟩
             refine ⟨_, rfl, ?_⟩
             have n0_ := a_ (Kd.R_elder' (R_ HO_213002.out) (Kd.R_base ho0) hb); have n1_ := a_ (Kd.R_elder' (R_ HO_219002.out) (Kd.R_base ho0) hb); have n2_ := a_ (Kd.R_elder' (R_ HO_230002.out) (Kd.R_base ho0) hb); have n3_ := a_ (Kd.R_elder' (R_ HO247.out) (Kd.R_base ho0) hb); have n4_ := a_ (Kd.R_lower (Kd.R_new' (Kd.R_new' (Kd.R_new' (Kd.R_new' ho0 (Kd.R_lt (R_ HO_213002.out))) (Kd.R_lt (R_ HO_219002.out))) (Kd.R_lt (R_ HO_230002.out))) (Kd.R_lt (R_ HO247.out))) (below_size (L6_ HB.out GE194.out GE195.out GE212.out GE218.out GE229.out GE258.out))); have n5_ := bb_ BK194 hb; have n6_ := bb_ BK195 hb; have n7_ := bb_ BK212 hb; have n8_ := bb_ BK218 hb; have n9_ := bb_ BK229 hb; have n10_ := bb_ BK258 hb; have n11_ := a_ (below_step (L6_ HB.out GE194.out GE195.out GE212.out GE218.out GE229.out GE258.out) hb); clear HO_213002; clear HO_219002; clear HO_230002; clear HO247; clear BK194; clear BK195; clear BK212; clear BK218; clear BK229; clear BK258; clear HB; have HO_213002 := n0_; have HO_219002 := n1_; have HO_230002 := n2_; have HO247 := n3_; have HO256 := n4_; have BK194 := n5_; have BK195 := n6_; have BK212 := n7_; have BK218 := n8_; have BK229 := n9_; have BK258 := n10_; have HB := n11_; clear n0_ n1_ n2_ n3_ n4_ n5_ n6_ n7_ n8_ n9_ n10_ n11_
             (try clear hb)
             (try clear hb2)
             (try clear hk)
             (try clear hi)
             (try clear ho0)
             refine hK.out _ _ ⟨c_ BK194.out 0, c_ BK194.out 1, c_ BK194.out 2, c_ BK195.out 0, c_ BK195.out 1, c_ BK195.out 2, c_ BK195.out 3⟩ (fun hHeld => ?_)
             clear hK K
             refine norm_ (a' := ?_) ?_ ?_
             rotate_left
             ·
              show Act.put _ (some 84) _ = _
              simp only [Act.put, List.setIfInBounds_toArray, List.set_cons_zero, List.set_cons_succ, i64_w, i32_w]
              rfl
             refine pure_ (i := 5) (N := some 79) (v := ?_) (a' := ?_) #[true, true, true, true, true, true, false, false, true, false, false] rfl rfl (any_of HT_.out (by kernel_rfl)) (fun _ _ _ h => h) (Or.inl ⟨by rfl, ?_⟩) ?_ ?_
             rotate_left
             ·
              intro w'
              go_simp
              with_reducible rfl
             rotate_left
             ·
              simp only [Act.put, List.setIfInBounds_toArray, List.set_cons_zero, List.set_cons_succ, i64_w, i32_w]
              rfl
             refine pure_ (i := 6) (N := some 85) (v := ?_) (a' := ?_) #[true, true, true, true, true, true, true, false, true, false, false] rfl rfl (any_of HT_.out (by kernel_rfl)) (fun _ _ _ h => h) (Or.inl ⟨by rfl, ?_⟩) ?_ ?_
             rotate_left
             ·
              intro w'
              go_simp
              with_reducible rfl
             rotate_left
             ·
              simp only [Act.put, List.setIfInBounds_toArray, List.set_cons_zero, List.set_cons_succ, i64_w, i32_w]
              rfl
             refine pure_ (i := 7) (N := some 86) (v := ?_) (a' := ?_) #[true, true, true, true, true, true, true, true, true, false, false] rfl rfl (any_of HT_.out (by kernel_rfl)) (fun _ _ _ h => h) (Or.inl ⟨by rfl, ?_⟩) ?_ ?_
             rotate_left
             ·
              intro w'
              go_simp
              with_reducible rfl
             rotate_left
             ·
              simp only [Act.put, List.setIfInBounds_toArray, List.set_cons_zero, List.set_cons_succ, i64_w, i32_w]
              rfl
             exact norm_ (by simp only [putAll, Act.put, List.setIfInBounds_toArray, List.set_cons_zero, List.set_cons_succ]) (hCont (.slice Ao142 t245.length co142, v255, gb258) _ ⟨hHeld, (by (with_reducible repeat (first | apply Kd.R_alloc | apply Kd.R_drewN | apply Kd.R_drew)); exact Kd.R_mono HO247.out (fun _ hk => ⟨hk.2, ⟨hk.1.1.1.2, ⟨hk.1.1.2, hk.1.2⟩⟩⟩)), (by (with_reducible repeat (first | apply Kd.R_alloc | apply Kd.R_drewN | apply Kd.R_drew)); exact Kd.R_mono HO256.out (fun _ hk => ⟨hk.2, ⟨hk.1.1.1.2, ⟨hk.1.1.2, hk.1.2⟩⟩⟩)), (by (with_reducible repeat (first | apply Kd.R_alloc | apply Kd.R_drewN | apply Kd.R_drew)); exact Kd.R_mono HO_213002.out (fun _ hk => ⟨hk.1.2, ⟨hk.2, ⟨hk.1.1.1, hk.1.1.2⟩⟩⟩)), (by (with_reducible repeat (first | apply Kd.R_alloc | apply Kd.R_drewN | apply Kd.R_drew)); exact Kd.R_mono HO_219002.out (fun _ hk => ⟨hk.1.2, ⟨hk.2, ⟨hk.1.1.1, hk.1.1.2⟩⟩⟩)), (by (with_reducible repeat (first | apply Kd.R_alloc | apply Kd.R_drewN | apply Kd.R_drew)); exact Kd.R_mono HO_230002.out (fun _ hk => ⟨hk.1.2, ⟨hk.2, ⟨hk.1.1.1, hk.1.1.2⟩⟩⟩)), (B_ BK194.out), (B_ BK195.out), (B_ BK212.out), (B_ BK218.out), (B_ BK229.out), (B_ BK258.out), GW258.out, GE258.out, NB194_258.out, NB258_194.out, NB195_258.out, NB258_195.out, NB212_258.out, NB258_212.out, NB218_258.out, NB258_218.out, NB229_258.out, NB258_229.out, (L6_ HB.out GE194.out GE195.out GE212.out GE218.out GE229.out GE258.out)⟩)
           rintro ⟨v246, v255, gb258⟩ w144 ⟨hS_, h0_, h1_, h2_, h3_, h4_, h5_, h6_, h7_, h8_, h9_, h10_, h11_, h12_, h13_, h14_, h15_, h16_, h17_, h18_, h19_, h20_, h21_, h22_, h23_⟩; have n0_ : Aside0 (Kd.R k51 51 w144 w.heap.size (fun k_ => some k_ ≠ (v255 : Value).ownBlock ∧ some k_ ≠ (.slice Ao31 t208.length co31 : Value).ownBlock ∧ some k_ ≠ (.slice Ao41 t238.length co41 : Value).ownBlock ∧ some k_ ≠ (.slice Ao50 t225.length co50 : Value).ownBlock) v246 t245) := ⟨h0_⟩; have n1_ : Aside0 (Kd.R k51 51 w144 w.heap.size (fun k_ => some k_ ≠ (v246 : Value).ownBlock ∧ some k_ ≠ (.slice Ao31 t208.length co31 : Value).ownBlock ∧ some k_ ≠ (.slice Ao41 t238.length co41 : Value).ownBlock ∧ some k_ ≠ (.slice Ao50 t225.length co50 : Value).ownBlock) v255 t254) := ⟨h1_⟩; have n2_ : Aside0 (Kd.R k51 51 w144 w.heap.size (fun k_ => some k_ ≠ (v246 : Value).ownBlock ∧ some k_ ≠ (v255 : Value).ownBlock ∧ some k_ ≠ (.slice Ao41 t238.length co41 : Value).ownBlock ∧ some k_ ≠ (.slice Ao50 t225.length co50 : Value).ownBlock) (.slice Ao31 t208.length co31) t208) := ⟨h2_⟩; have n3_ : Aside0 (Kd.R k51 51 w144 w.heap.size (fun k_ => some k_ ≠ (v246 : Value).ownBlock ∧ some k_ ≠ (v255 : Value).ownBlock ∧ some k_ ≠ (.slice Ao31 t208.length co31 : Value).ownBlock ∧ some k_ ≠ (.slice Ao50 t225.length co50 : Value).ownBlock) (.slice Ao41 t238.length co41) t238) := ⟨h3_⟩; have n4_ : Aside0 (Kd.R k51 51 w144 w.heap.size (fun k_ => some k_ ≠ (v246 : Value).ownBlock ∧ some k_ ≠ (v255 : Value).ownBlock ∧ some k_ ≠ (.slice Ao31 t208.length co31 : Value).ownBlock ∧ some k_ ≠ (.slice Ao41 t238.length co41 : Value).ownBlock) (.slice Ao50 t225.length co50) t241) := ⟨h4_⟩; have n5_ : Aside0 (w144.heap[gb194]? = some (.cells #[.int .i64 a0_0, .int .i64 a0_1, .slice A0_2 l0_2.length c0_2] 30 (0, 0))) := ⟨h5_⟩; have n6_ : Aside0 (w144.heap[gb195]? = some (.cells #[.int .i64 a1_0, .int .i64 a1_1, .int .i64 a1_2, .int .i64 a1_3] 48 (0, 0))) := ⟨h6_⟩; have n7_ : Aside0 (w144.heap[gb212]? = some (.cells #[.int .i64 t206, .int .i64 t207, .slice Ao31 t208.length co31] 35 (0, 0))) := ⟨h7_⟩; have n8_ : Aside0 (w144.heap[gb218]? = some (.cells #[.int .i64 t213, .int .i64 t214, .slice Ao41 t238.length co41] 35 (0, 0))) := ⟨h8_⟩; have n9_ : Aside0 (w144.heap[gb229]? = some (.cells #[.int .i64 t223, .int .i64 t224, .slice Ao50 t225.length co50] 35 (0, 0))) := ⟨h9_⟩; have n10_ : Aside0 (w144.heap[gb258]? = some (.cells #[.int .i64 0, .int .i64 0, .slice none 0 0] 35 (0, 0))) := ⟨h10_⟩; have n11_ : Aside0 (w.heap.size ≤ gb258) := ⟨h11_⟩; have n12_ : Aside0 (w.heap.size ≤ gb258) := ⟨h12_⟩; have n13_ : Aside0 (gb194 ≠ gb258) := ⟨h13_⟩; have n14_ : Aside0 (gb258 ≠ gb194) := ⟨h14_⟩; have n15_ : Aside0 (gb195 ≠ gb258) := ⟨h15_⟩; have n16_ : Aside0 (gb258 ≠ gb195) := ⟨h16_⟩; have n17_ : Aside0 (gb212 ≠ gb258) := ⟨h17_⟩; have n18_ : Aside0 (gb258 ≠ gb212) := ⟨h18_⟩; have n19_ : Aside0 (gb218 ≠ gb258) := ⟨h19_⟩; have n20_ : Aside0 (gb258 ≠ gb218) := ⟨h20_⟩; have n21_ : Aside0 (gb229 ≠ gb258) := ⟨h21_⟩; have n22_ : Aside0 (gb258 ≠ gb229) := ⟨h22_⟩
           have n23_ : Aside0 (Below w.heap.size w w144) := ⟨h23_⟩; clear HO_213002; clear HO_219002; clear HO_230002; clear BK194; clear BK195; clear BK212; clear BK218; clear BK229; clear HB; clear h0_ h1_ h2_ h3_ h4_ h5_ h6_ h7_ h8_ h9_ h10_ h11_ h12_ h13_ h14_ h15_ h16_ h17_ h18_ h19_ h20_ h21_ h22_ h23_; have HO247 := n0_; have HO256 := n1_; have HO_213002 := n2_; have HO_219002 := n3_; have HO_230002 := n4_; have BK194 := n5_; have BK195 := n6_; have BK212 := n7_; have BK218 := n8_; have BK229 := n9_; have BK258 := n10_; have GW258 := n11_; have GE258 := n12_; have NB194_258 := n13_; have NB258_194 := n14_; have NB195_258 := n15_; have NB258_195 := n16_; have NB212_258 := n17_; have NB258_212 := n18_; have NB218_258 := n19_; have NB258_218 := n20_; have NB229_258 := n21_; have NB258_229 := n22_; have HB := n23_; clear n0_ n1_ n2_ n3_ n4_ n5_ n6_ n7_ n8_ n9_ n10_ n11_ n12_ n13_ n14_ n15_ n16_ n17_ n18_ n19_ n20_ n21_ n22_ n23_; have hHeld : w144.cell? ⟨gb194, 0, none⟩ = some (.int .i64 a0_0) ∧ w144.cell? ⟨gb194, 1, none⟩ = some (.int .i64 a0_1) ∧ w144.cell? ⟨gb194, 2, none⟩ = some (.slice A0_2 l0_2.length c0_2) ∧ w144.cell? ⟨gb195, 0, none⟩ = some (.int .i64 a1_0) ∧ w144.cell? ⟨gb195, 1, none⟩ = some (.int .i64 a1_1) ∧ w144.cell? ⟨gb195, 2, none⟩ = some (.int .i64 a1_2) ∧ w144.cell? ⟨gb195, 3, none⟩ = some (.int .i64 a1_3) := hS_; obtain ⟨Ao147, co147, eo147⟩ := Kd.R_slice HO256.out
           (first | subst eo147 | (injection eo147 with f1_ f2_ f3_; have f4_ := f1_.symm; have f5_ := f3_.symm; clear f1_ f2_ f3_; subst f4_; subst f5_))
           refine norm_ (a' := ?_) ?_ ?_
           rotate_left
           ·
            simp only [putAll, Act.put, List.setIfInBounds_toArray, List.set_cons_zero, List.set_cons_succ]
            rfl
           refine one_ (i := 9) (N := none) #[true, true, true, true, true, true, true, true, true, true, false] rfl rfl (one_of HT_.out (by kernel_rfl)) (by decide) (fun K hK => ?_)
           have hs145 : w144.cell? ⟨gb258, 0, none⟩ = some (.int .i64 0) := c_ BK258.out 0; have hfs145 := blk_frozen BK258.out 0; have hns145_0 := NB194_258.out; have hns145_1 := NB195_258.out; have hns145_2 := NB212_258.out; have hns145_3 := NB218_258.out; have hns145_4 := NB229_258.out; have hms145_0 := NB258_194.out; have hms145_1 := NB258_195.out; have hms145_2 := NB258_212.out; have hms145_3 := NB258_218.out; have hms145_4 := NB258_229.out; have hs146 : w144.cell? ⟨gb258, 1, none⟩ = some (.int .i64 0) := c_ BK258.out 1; have hfs146 := blk_frozen BK258.out 1; have hns146_0 := NB194_258.out; have hns146_1 := NB195_258.out; have hns146_2 := NB212_258.out; have hns146_3 := NB218_258.out; have hns146_4 := NB229_258.out; have hms146_0 := NB258_194.out; have hms146_1 := NB258_195.out; have hms146_2 := NB258_212.out; have hms146_3 := NB258_218.out; have hms146_4 := NB258_229.out; have hs148 : w144.cell? ⟨gb258, 2, none⟩ = some (.slice none 0 0) := c_ BK258.out 2; have hfs148 := blk_frozen BK258.out 2; have hns148_0 := NB194_258.out; have hns148_1 := NB195_258.out; have hns148_2 := NB212_258.out; have hns148_3 := NB218_258.out; have hns148_4 := NB229_258.out; have hms148_0 := NB258_194.out; have hms148_1 := NB258_195.out; have hms148_2 := NB258_212.out; have hms148_3 := NB258_218.out; have hms148_4 := NB258_229.out
           refine skip_ (w1 := ?_) (by rfl) rfl ?_ ?_
           rotate_left
           ·
            go_simp
            rfl
           refine hK.out _ _ ⟨((cell_far (p := ⟨gb258, _, none⟩) NB194_258.out _).trans (((cell_far (p := ⟨gb258, _, none⟩) NB194_258.out _).trans (((cell_far (p := ⟨gb258, _, none⟩) NB194_258.out _).trans (hHeld.1)))))), ((cell_far (p := ⟨gb258, _, none⟩) NB194_258.out _).trans (((cell_far (p := ⟨gb258, _, none⟩) NB194_258.out _).trans (((cell_far (p := ⟨gb258, _, none⟩) NB194_258.out _).trans (hHeld.2.1)))))), ((cell_far (p := ⟨gb258, _, none⟩) NB194_258.out _).trans (((cell_far (p := ⟨gb258, _, none⟩) NB194_258.out _).trans (((cell_far (p := ⟨gb258, _, none⟩) NB194_258.out _).trans (hHeld.2.2.1)))))), ((cell_far (p := ⟨gb258, _, none⟩) NB195_258.out _).trans (((cell_far (p := ⟨gb258, _, none⟩) NB195_258.out _).trans (((cell_far (p := ⟨gb258, _, none⟩) NB195_258.out _).trans (hHeld.2.2.2.1)))))), ((cell_far (p := ⟨gb258, _, none⟩) NB195_258.out _).trans (((cell_far (p := ⟨gb258, _, none⟩) NB195_258.out _).trans (((cell_far (p := ⟨gb258, _, none⟩) NB195_258.out _).trans (hHeld.2.2.2.2.1)))))), ((cell_far (p := ⟨gb258, _, none⟩) NB195_258.out _).trans (((cell_far (p := ⟨gb258, _, none⟩) NB195_258.out _).trans (((cell_far (p := ⟨gb258, _, none⟩) NB195_258.out _).trans (hHeld.2.2.2.2.2.1)))))), ((cell_far (p := ⟨gb258, _, none⟩) NB195_258.out _).trans (((cell_far (p := ⟨gb258, _, none⟩) NB195_258.out _).trans (((cell_far (p := ⟨gb258, _, none⟩) NB195_258.out _).trans (hHeld.2.2.2.2.2.2))))))⟩ (fun hHeld => ?_)
           clear hK K
           refine pure_ (i := 10) (N := some 15) (v := ?_) (a' := ?_) #[true, true, true, true, true, true, true, true, true, true, true] rfl rfl (any_of HT_.out (by kernel_rfl)) (fun _ _ _ h => h) (Or.inl ⟨by rfl, ?_⟩) ?_ ?_
           rotate_left
           ·
            intro w'
            go_simp
            with_reducible rfl
           rotate_left
           ·
            simp only [Act.put, List.setIfInBounds_toArray, List.set_cons_zero, List.set_cons_succ, i64_w, i32_w]
            rfl
           refine done_ (done_of HT_.out (by kernel_rfl)) ?_
           go_upto_region 25 with (fail)
           go_cut [95] (fun v95 wc => ∃ (kq : Nat) (x95_128 : Bool), v95 = .bool x95_128 ∧ Aside0 (laws_FnExactAddResult.j2 kq t240 x95_128 t223 t224 t241 = some r) ∧ Aside0 (kq ≤ kj78) ∧ Aside0 (Kd.R k51 51 wc w.heap.size (fun k_ => some k_ ≠ ((.slice Ao41 t238.length co41) : Value).ownBlock ∧ some k_ ≠ ((.slice Ao50 t225.length co50) : Value).ownBlock ∧ some k_ ≠ ((.slice Ao147 t254.length co147) : Value).ownBlock) (.slice Ao31 t208.length co31) t208) ∧ Aside0 (Kd.R k51 51 wc w.heap.size (fun k_ => some k_ ≠ ((.slice Ao31 t208.length co31) : Value).ownBlock ∧ some k_ ≠ ((.slice Ao50 t225.length co50) : Value).ownBlock ∧ some k_ ≠ ((.slice Ao147 t254.length co147) : Value).ownBlock) (.slice Ao41 t238.length co41) t238) ∧ Aside0 (Kd.R k51 51 wc w.heap.size (fun k_ => some k_ ≠ ((.slice Ao31 t208.length co31) : Value).ownBlock ∧ some k_ ≠ ((.slice Ao41 t238.length co41) : Value).ownBlock ∧ some k_ ≠ ((.slice Ao147 t254.length co147) : Value).ownBlock) (.slice Ao50 t225.length co50) t241) ∧ Aside0 (Kd.R k51 51 wc w.heap.size (fun k_ => some k_ ≠ ((.slice Ao31 t208.length co31) : Value).ownBlock ∧ some k_ ≠ ((.slice Ao41 t238.length co41) : Value).ownBlock ∧ some k_ ≠ ((.slice Ao50 t225.length co50) : Value).ownBlock) (.slice Ao147 t254.length co147) t254) ∧ Aside0 (wc.heap[gb194]? = some (.cells #[.int .i64 a0_0, .int .i64 a0_1, (.slice A0_2 l0_2.length c0_2)] 30 (0, 0))) ∧ Aside0 (wc.heap[gb195]? = some (.cells #[.int .i64 a1_0, .int .i64 a1_1, .int .i64 a1_2, .int .i64 a1_3] 48 (0, 0))) ∧ Aside0 (wc.heap[gb212]? = some (.cells #[.int .i64 t206, .int .i64 t207, (.slice Ao31 t208.length co31)] 35 (0, 0))) ∧ Aside0 (wc.heap[gb218]? = some (.cells #[.int .i64 t213, .int .i64 t214, (.slice Ao41 t238.length co41)] 35 (0, 0))) ∧ Aside0 (wc.heap[gb229]? = some (.cells #[.int .i64 t223, .int .i64 t224, (.slice Ao50 t225.length co50)] 35 (0, 0))) ∧ Aside0 (wc.heap[gb258]? = some (.cells #[.int .i64 t252, .int .i64 t253, (.slice Ao147 t254.length co147)] 35 (0, 0))) ∧ Aside0 (Below w.heap.size w wc))
           case first =>
            have H := HC129.out; clear HC129; replace H := Option.bind_eq_some_iff.mp H; obtain ⟨t259, A1490, H⟩ := H; replace H : (if t259 = true then (laws_FnExactAddResult.j2 kj78 t240 (t257 != t211) t223 t224 t241) else (laws_FnExactAddResult.j2 kj78 t240 true t223 t224 t241)) = some r := H; have A149 := a_ A1490; clear A1490
            by_cases c150 : t259 = true
            ·
             subst c150; have H1 : (laws_FnExactAddResult.j2 kj78 t240 (t257 != t211) t223 t224 t241) = some r := by rw [if_pos rfl] at H; exact H
             clear H; have H := H1; clear H1; have H' := a_ H; clear H; have hnb151 := NB258_194.out; have hnc151 := NB194_258.out; have hnb152 := NB258_195.out; have hnc152 := NB195_258.out; have hnb153 := NB258_212.out; have hnc153 := NB212_258.out; have hnb154 := NB258_218.out; have hnc154 := NB218_258.out; have hnb155 := NB258_229.out; have hnc155 := NB229_258.out; have hcz156_0 : w144.cell? ⟨gb258, 0, none⟩ = some (.int .i64 0) := c_ BK258.out 0; have hcz156_1 : w144.cell? ⟨gb258, 1, none⟩ = some (.int .i64 0) := c_ BK258.out 1; have hcz156_2 : w144.cell? ⟨gb258, 2, none⟩ = some (.slice none 0 0) := c_ BK258.out 2; have hfz156_0 := blk_frozen BK258.out 0; have hfz156_1 := blk_frozen BK258.out 1; have hfz156_2 := blk_frozen BK258.out 2; have hnb157 := NB212_194.out; have hnc157 := NB194_212.out; have hnb158 := NB212_195.out; have hnc158 := NB195_212.out; have hnb159 := NB212_218.out; have hnc159 := NB218_212.out; have hnb160 := NB212_229.out; have hnc160 := NB229_212.out; have hcz161_0 : w144.cell? ⟨gb212, 0, none⟩ = some (.int .i64 t206) := c_ BK212.out 0; have hcz161_1 : w144.cell? ⟨gb212, 1, none⟩ = some (.int .i64 t207) := c_ BK212.out 1; have hcz161_2 : w144.cell? ⟨gb212, 2, none⟩ = some (.slice Ao31 t208.length co31) := c_ BK212.out 2; have hfz161_0 := blk_frozen BK212.out 0; have hfz161_1 := blk_frozen BK212.out 1; have hfz161_2 := blk_frozen BK212.out 2
             go_wp2_with (first | ((with_reducible refine gate_callee (f := 24) rfl ?_); refine goesL_ (some 89) rfl rfl Try.func24 (by kernel_rfl) rfl #[.agg #[.int .i64 t252, .int .i64 t253, .slice Ao147 t254.length co147], .agg #[.int .i64 t206, .int .i64 t207, .slice Ao31 t208.length co31]] rfl (by (try simp only [m1_, m2_, m3_]); first | done | rfl) ?_; (with_reducible refine (laws_eqLeague.calls kj78 t252 t253 _ _ t254 t206 t207 _ _ t208 true _ ?side1 ?side2 ?side3 ?side4 A149.out).mono ?_); (case side1 => refine (Kd.R_reads' (e := 51) (base := w.heap.size) (ok := fun k_ => (some k_ ≠ (v246 : Value).ownBlock ∧ (some k_ ≠ (.slice Ao31 t208.length co31 : Value).ownBlock ∧ (some k_ ≠ (.slice Ao41 t238.length co41 : Value).ownBlock ∧ some k_ ≠ (.slice Ao50 t225.length co50 : Value).ownBlock)))) (n := t254.length) (c := co147) ?_).2.2; exact (by (with_reducible repeat (first | apply Kd.R_alloc | apply Kd.R_drewN | apply Kd.R_drew)); exact (Kd.R_mono (Kd.R_far (p := ⟨gb258, 2, none⟩) (Kd.R_far (p := ⟨gb258, 1, none⟩) (Kd.R_far (p := ⟨gb258, 0, none⟩) (Kd.R_types HO256.out BK258.out (by decide)) (fun _ hk => hk.2) (.int .i64 t252)) (fun _ hk => hk.2) (.int .i64 t253)) (fun _ hk => hk.2) (.slice Ao147 t254.length co147)) (fun _ h_ => h_.1)))); (case side2 => exact (Kd.R_reads' HO256.out).2.1); (case side3 => refine (Kd.R_reads' (e := 51) (base := w.heap.size) (ok := fun k_ => (some k_ ≠ (v246 : Value).ownBlock ∧ (some k_ ≠ (.slice Ao147 t254.length co147 : Value).ownBlock ∧ (some k_ ≠ (.slice Ao41 t238.length co41 : Value).ownBlock ∧ some k_ ≠ (.slice Ao50 t225.length co50 : Value).ownBlock)))) (n := t208.length) (c := co31) ?_).2.2; exact (by (with_reducible repeat (first | apply Kd.R_alloc | apply Kd.R_drewN | apply Kd.R_drew)); exact (Kd.R_mono (Kd.R_far (p := ⟨gb258, 2, none⟩) (Kd.R_far (p := ⟨gb258, 1, none⟩) (Kd.R_far (p := ⟨gb258, 0, none⟩) (Kd.R_types HO_213002.out BK258.out (by decide)) (fun _ hk => hk.2) (.int .i64 t252)) (fun _ hk => hk.2) (.int .i64 t253)) (fun _ hk => hk.2) (.slice Ao147 t254.length co147)) (fun _ h_ => h_.1)))); (case side4 => exact (Kd.R_reads' HO_213002.out).2.1); rintro e w162 ⟨rfl, hb⟩; refine ⟨_, rfl, ?_⟩; have n0_ := a_ (Kd.R_below (by (with_reducible repeat (first | apply Kd.R_alloc | apply Kd.R_drewN | apply Kd.R_drew)); exact (Kd.R_mono (Kd.R_far (p := ⟨gb258, 2, none⟩) (Kd.R_far (p := ⟨gb258, 1, none⟩) (Kd.R_far (p := ⟨gb258, 0, none⟩) (Kd.R_types HO_213002.out BK258.out (by decide)) (fun _ hk => hk.2) (.int .i64 t252)) (fun _ hk => hk.2) (.int .i64 t253)) (fun _ hk => hk.2) (.slice Ao147 t254.length co147)) (fun _ h_ => h_.1))) hb); have n1_ := a_ (Kd.R_below (by (with_reducible repeat (first | apply Kd.R_alloc | apply Kd.R_drewN | apply Kd.R_drew)); exact (Kd.R_mono (Kd.R_far (p := ⟨gb258, 2, none⟩) (Kd.R_far (p := ⟨gb258, 1, none⟩) (Kd.R_far (p := ⟨gb258, 0, none⟩) (Kd.R_types HO_219002.out BK258.out (by decide)) (fun _ hk => hk.2) (.int .i64 t252)) (fun _ hk => hk.2) (.int .i64 t253)) (fun _ hk => hk.2) (.slice Ao147 t254.length co147)) (fun _ h_ => h_.1))) hb); have n2_ := a_ (Kd.R_below (by (with_reducible repeat (first | apply Kd.R_alloc | apply Kd.R_drewN | apply Kd.R_drew)); exact (Kd.R_mono (Kd.R_far (p := ⟨gb258, 2, none⟩) (Kd.R_far (p := ⟨gb258, 1, none⟩) (Kd.R_far (p := ⟨gb258, 0, none⟩) (Kd.R_types HO_230002.out BK258.out (by decide)) (fun _ hk => hk.2) (.int .i64 t252)) (fun _ hk => hk.2) (.int .i64 t253)) (fun _ hk => hk.2) (.slice Ao147 t254.length co147)) (fun _ h_ => h_.1))) hb); have n3_ := a_ (Kd.R_below (by (with_reducible repeat (first | apply Kd.R_alloc | apply Kd.R_drewN | apply Kd.R_drew)); exact (Kd.R_mono (Kd.R_far (p := ⟨gb258, 2, none⟩) (Kd.R_far (p := ⟨gb258, 1, none⟩) (Kd.R_far (p := ⟨gb258, 0, none⟩) (Kd.R_types HO247.out BK258.out (by decide)) (fun _ hk => hk.2) (.int .i64 t252)) (fun _ hk => hk.2) (.int .i64 t253)) (fun _ hk => hk.2) (.slice Ao147 t254.length co147)) (fun _ h_ => h_.1))) hb); have n4_ := a_ (Kd.R_below (by (with_reducible repeat (first | apply Kd.R_alloc | apply Kd.R_drewN | apply Kd.R_drew)); exact (Kd.R_mono (Kd.R_far (p := ⟨gb258, 2, none⟩) (Kd.R_far (p := ⟨gb258, 1, none⟩) (Kd.R_far (p := ⟨gb258, 0, none⟩) (Kd.R_types HO256.out BK258.out (by decide)) (fun _ hk => hk.2) (.int .i64 t252)) (fun _ hk => hk.2) (.int .i64 t253)) (fun _ hk => hk.2) (.slice Ao147 t254.length co147)) (fun _ h_ => h_.1))) hb); have n5_ := a_ (blk_below (g := gb194) (o := .cells #[.int .i64 a0_0, .int .i64 a0_1, .slice A0_2 l0_2.length c0_2] 30 (0, 0)) (by (with_reducible repeat (first | refine blk_drewN ?_ _ | refine blk_drew ?_ | refine blk_alloc ?_ _)); refine blk_far ?_ NB194_258.out _; refine blk_far ?_ NB194_258.out _; refine blk_far ?_ NB194_258.out _; exact B_ BK194.out) hb); have n6_ := a_ (blk_below (g := gb195) (o := .cells #[.int .i64 a1_0, .int .i64 a1_1, .int .i64 a1_2, .int .i64 a1_3] 48 (0, 0)) (by (with_reducible repeat (first | refine blk_drewN ?_ _ | refine blk_drew ?_ | refine blk_alloc ?_ _)); refine blk_far ?_ NB195_258.out _; refine blk_far ?_ NB195_258.out _; refine blk_far ?_ NB195_258.out _; exact B_ BK195.out) hb); have n7_ := a_ (blk_below (g := gb212) (o := .cells #[.int .i64 t206, .int .i64 t207, .slice Ao31 t208.length co31] 35 (0, 0)) (by (with_reducible repeat (first | refine blk_drewN ?_ _ | refine blk_drew ?_ | refine blk_alloc ?_ _)); refine blk_far ?_ NB212_258.out _; refine blk_far ?_ NB212_258.out _; refine blk_far ?_ NB212_258.out _; exact B_ BK212.out) hb); have n8_ := a_ (blk_below (g := gb218) (o := .cells #[.int .i64 t213, .int .i64 t214, .slice Ao41 t238.length co41] 35 (0, 0)) (by (with_reducible repeat (first | refine blk_drewN ?_ _ | refine blk_drew ?_ | refine blk_alloc ?_ _)); refine blk_far ?_ NB218_258.out _; refine blk_far ?_ NB218_258.out _; refine blk_far ?_ NB218_258.out _; exact B_ BK218.out) hb); have n9_ := a_ (blk_below (g := gb229) (o := .cells #[.int .i64 t223, .int .i64 t224, .slice Ao50 t225.length co50] 35 (0, 0)) (by (with_reducible repeat (first | refine blk_drewN ?_ _ | refine blk_drew ?_ | refine blk_alloc ?_ _)); refine blk_far ?_ NB229_258.out _; refine blk_far ?_ NB229_258.out _; refine blk_far ?_ NB229_258.out _; exact B_ BK229.out) hb); have n10_ := a_ (blk_below (g := gb258) (o := .cells #[.int .i64 t252, .int .i64 t253, .slice Ao147 t254.length co147] 35 (0, 0)) (by (with_reducible repeat (first | refine blk_drewN ?_ _ | refine blk_drew ?_ | refine blk_alloc ?_ _)); refine blk_put (cs := #[.int .i64 t252, .int .i64 t253, .slice none 0 0]) ?_ 2 _ rfl; (with_reducible repeat (first | refine blk_drewN ?_ _ | refine blk_drew ?_ | refine blk_alloc ?_ _)); refine blk_put (cs := #[.int .i64 t252, .int .i64 0, .slice none 0 0]) ?_ 1 _ rfl; (with_reducible repeat (first | refine blk_drewN ?_ _ | refine blk_drew ?_ | refine blk_alloc ?_ _)); refine blk_put (cs := #[.int .i64 0, .int .i64 0, .slice none 0 0]) ?_ 0 _ rfl; exact B_ BK258.out) hb); have n11_ := a_ (below_step (L6_ HB.out GE194.out GE195.out GE212.out GE218.out GE229.out GE258.out) hb); clear HO_213002; clear HO_219002; clear HO_230002; clear HO247; clear HO256; clear BK194; clear BK195; clear BK212; clear BK218; clear BK229; clear BK258; clear HB; have HO_213002 := n0_; have HO_219002 := n1_; have HO_230002 := n2_; have HO247 := n3_; have HO256 := n4_; have BK194 := n5_; have BK195 := n6_; have BK212 := n7_; have BK218 := n8_; have BK229 := n9_; have BK258 := n10_; have HB := n11_; clear n0_ n1_ n2_ n3_ n4_ n5_ n6_ n7_ n8_ n9_ n10_ n11_; (try clear hb); (try clear hb2); (try clear hk); (try clear hi)))
             go_meet
             case rel => exact ⟨_, ((t257 != t211)), (by first | rfl | (simp; done) | (simp [*]; done)), H', ⟨by have := HJ15.out; have := HJ78.out; first | omega | exact Nat.le_refl _⟩, ⟨by (try simp only [hl219002_78]); (with_reducible repeat (first | apply Kd.R_alloc | apply Kd.R_drewN | apply Kd.R_drew)); exact Kd.R_mono HO_213002.out (fun _ hk => ⟨hk.2.2.1, ⟨hk.2.2.2, hk.2.1⟩⟩)⟩, ⟨by (try simp only [hl219002_78]); (with_reducible repeat (first | apply Kd.R_alloc | apply Kd.R_drewN | apply Kd.R_drew)); exact Kd.R_mono HO_219002.out (fun _ hk => ⟨hk.2.2.1, ⟨hk.2.2.2, hk.2.1⟩⟩)⟩, ⟨by (try simp only [hl219002_78]); (with_reducible repeat (first | apply Kd.R_alloc | apply Kd.R_drewN | apply Kd.R_drew)); exact Kd.R_mono HO_230002.out (fun _ hk => ⟨hk.2.2.1, ⟨hk.2.2.2, hk.2.1⟩⟩)⟩, ⟨by (try simp only [hl219002_78]); (with_reducible repeat (first | apply Kd.R_alloc | apply Kd.R_drewN | apply Kd.R_drew)); exact Kd.R_mono HO256.out (fun _ hk => ⟨hk.2.1, ⟨hk.2.2.1, hk.2.2.2⟩⟩)⟩, ⟨by (try simp only [hl219002_78]); exact B_ BK194.out⟩, ⟨by (try simp only [hl219002_78]); exact B_ BK195.out⟩, ⟨by (try simp only [hl219002_78]); exact B_ BK212.out⟩, ⟨by (try simp only [hl219002_78]); exact B_ BK218.out⟩, ⟨by (try simp only [hl219002_78]); exact B_ BK229.out⟩, ⟨by (try simp only [hl219002_78]); exact B_ BK258.out⟩, ⟨L6_ HB.out GE194.out GE195.out GE212.out GE218.out GE229.out GE258.out⟩⟩
            ·
             replace c150 := Bool.eq_false_iff.mpr c150; subst c150; have H1 : (laws_FnExactAddResult.j2 kj78 t240 true t223 t224 t241) = some r := by rw [if_neg (show ¬ (false = true) by decide)] at H; exact H
             clear H; have H := H1; clear H1; have H' := a_ H; clear H; have hnb163 := NB258_194.out; have hnc163 := NB194_258.out; have hnb164 := NB258_195.out; have hnc164 := NB195_258.out; have hnb165 := NB258_212.out; have hnc165 := NB212_258.out; have hnb166 := NB258_218.out; have hnc166 := NB218_258.out; have hnb167 := NB258_229.out; have hnc167 := NB229_258.out; have hcz168_0 : w144.cell? ⟨gb258, 0, none⟩ = some (.int .i64 0) := c_ BK258.out 0; have hcz168_1 : w144.cell? ⟨gb258, 1, none⟩ = some (.int .i64 0) := c_ BK258.out 1; have hcz168_2 : w144.cell? ⟨gb258, 2, none⟩ = some (.slice none 0 0) := c_ BK258.out 2; have hfz168_0 := blk_frozen BK258.out 0; have hfz168_1 := blk_frozen BK258.out 1; have hfz168_2 := blk_frozen BK258.out 2; have hnb169 := NB212_194.out; have hnc169 := NB194_212.out; have hnb170 := NB212_195.out; have hnc170 := NB195_212.out; have hnb171 := NB212_218.out; have hnc171 := NB218_212.out; have hnb172 := NB212_229.out; have hnc172 := NB229_212.out; have hcz173_0 : w144.cell? ⟨gb212, 0, none⟩ = some (.int .i64 t206) := c_ BK212.out 0; have hcz173_1 : w144.cell? ⟨gb212, 1, none⟩ = some (.int .i64 t207) := c_ BK212.out 1; have hcz173_2 : w144.cell? ⟨gb212, 2, none⟩ = some (.slice Ao31 t208.length co31) := c_ BK212.out 2; have hfz173_0 := blk_frozen BK212.out 0; have hfz173_1 := blk_frozen BK212.out 1; have hfz173_2 := blk_frozen BK212.out 2
             go_wp2_with (first | ((with_reducible refine gate_callee (f := 24) rfl ?_); refine goesL_ (some 89) rfl rfl Try.func24 (by kernel_rfl) rfl #[.agg #[.int .i64 t252, .int .i64 t253, .slice Ao147 t254.length co147], .agg #[.int .i64 t206, .int .i64 t207, .slice Ao31 t208.length co31]] rfl (by (try simp only [m1_, m2_, m3_]); first | done | rfl) ?_; (with_reducible refine (laws_eqLeague.calls kj78 t252 t253 _ _ t254 t206 t207 _ _ t208 false _ ?side1 ?side2 ?side3 ?side4 A149.out).mono ?_); (case side1 => refine (Kd.R_reads' (e := 51) (base := w.heap.size) (ok := fun k_ => (some k_ ≠ (v246 : Value).ownBlock ∧ (some k_ ≠ (.slice Ao31 t208.length co31 : Value).ownBlock ∧ (some k_ ≠ (.slice Ao41 t238.length co41 : Value).ownBlock ∧ some k_ ≠ (.slice Ao50 t225.length co50 : Value).ownBlock)))) (n := t254.length) (c := co147) ?_).2.2; exact (by (with_reducible repeat (first | apply Kd.R_alloc | apply Kd.R_drewN | apply Kd.R_drew)); exact (Kd.R_mono (Kd.R_far (p := ⟨gb258, 2, none⟩) (Kd.R_far (p := ⟨gb258, 1, none⟩) (Kd.R_far (p := ⟨gb258, 0, none⟩) (Kd.R_types HO256.out BK258.out (by decide)) (fun _ hk => hk.2) (.int .i64 t252)) (fun _ hk => hk.2) (.int .i64 t253)) (fun _ hk => hk.2) (.slice Ao147 t254.length co147)) (fun _ h_ => h_.1)))); (case side2 => exact (Kd.R_reads' HO256.out).2.1); (case side3 => refine (Kd.R_reads' (e := 51) (base := w.heap.size) (ok := fun k_ => (some k_ ≠ (v246 : Value).ownBlock ∧ (some k_ ≠ (.slice Ao147 t254.length co147 : Value).ownBlock ∧ (some k_ ≠ (.slice Ao41 t238.length co41 : Value).ownBlock ∧ some k_ ≠ (.slice Ao50 t225.length co50 : Value).ownBlock)))) (n := t208.length) (c := co31) ?_).2.2; exact (by (with_reducible repeat (first | apply Kd.R_alloc | apply Kd.R_drewN | apply Kd.R_drew)); exact (Kd.R_mono (Kd.R_far (p := ⟨gb258, 2, none⟩) (Kd.R_far (p := ⟨gb258, 1, none⟩) (Kd.R_far (p := ⟨gb258, 0, none⟩) (Kd.R_types HO_213002.out BK258.out (by decide)) (fun _ hk => hk.2) (.int .i64 t252)) (fun _ hk => hk.2) (.int .i64 t253)) (fun _ hk => hk.2) (.slice Ao147 t254.length co147)) (fun _ h_ => h_.1)))); (case side4 => exact (Kd.R_reads' HO_213002.out).2.1); rintro e w174 ⟨rfl, hb⟩; refine ⟨_, rfl, ?_⟩; have n0_ := a_ (Kd.R_below (by (with_reducible repeat (first | apply Kd.R_alloc | apply Kd.R_drewN | apply Kd.R_drew)); exact (Kd.R_mono (Kd.R_far (p := ⟨gb258, 2, none⟩) (Kd.R_far (p := ⟨gb258, 1, none⟩) (Kd.R_far (p := ⟨gb258, 0, none⟩) (Kd.R_types HO_213002.out BK258.out (by decide)) (fun _ hk => hk.2) (.int .i64 t252)) (fun _ hk => hk.2) (.int .i64 t253)) (fun _ hk => hk.2) (.slice Ao147 t254.length co147)) (fun _ h_ => h_.1))) hb); have n1_ := a_ (Kd.R_below (by (with_reducible repeat (first | apply Kd.R_alloc | apply Kd.R_drewN | apply Kd.R_drew)); exact (Kd.R_mono (Kd.R_far (p := ⟨gb258, 2, none⟩) (Kd.R_far (p := ⟨gb258, 1, none⟩) (Kd.R_far (p := ⟨gb258, 0, none⟩) (Kd.R_types HO_219002.out BK258.out (by decide)) (fun _ hk => hk.2) (.int .i64 t252)) (fun _ hk => hk.2) (.int .i64 t253)) (fun _ hk => hk.2) (.slice Ao147 t254.length co147)) (fun _ h_ => h_.1))) hb); have n2_ := a_ (Kd.R_below (by (with_reducible repeat (first | apply Kd.R_alloc | apply Kd.R_drewN | apply Kd.R_drew)); exact (Kd.R_mono (Kd.R_far (p := ⟨gb258, 2, none⟩) (Kd.R_far (p := ⟨gb258, 1, none⟩) (Kd.R_far (p := ⟨gb258, 0, none⟩) (Kd.R_types HO_230002.out BK258.out (by decide)) (fun _ hk => hk.2) (.int .i64 t252)) (fun _ hk => hk.2) (.int .i64 t253)) (fun _ hk => hk.2) (.slice Ao147 t254.length co147)) (fun _ h_ => h_.1))) hb); have n3_ := a_ (Kd.R_below (by (with_reducible repeat (first | apply Kd.R_alloc | apply Kd.R_drewN | apply Kd.R_drew)); exact (Kd.R_mono (Kd.R_far (p := ⟨gb258, 2, none⟩) (Kd.R_far (p := ⟨gb258, 1, none⟩) (Kd.R_far (p := ⟨gb258, 0, none⟩) (Kd.R_types HO247.out BK258.out (by decide)) (fun _ hk => hk.2) (.int .i64 t252)) (fun _ hk => hk.2) (.int .i64 t253)) (fun _ hk => hk.2) (.slice Ao147 t254.length co147)) (fun _ h_ => h_.1))) hb); have n4_ := a_ (Kd.R_below (by (with_reducible repeat (first | apply Kd.R_alloc | apply Kd.R_drewN | apply Kd.R_drew)); exact (Kd.R_mono (Kd.R_far (p := ⟨gb258, 2, none⟩) (Kd.R_far (p := ⟨gb258, 1, none⟩) (Kd.R_far (p := ⟨gb258, 0, none⟩) (Kd.R_types HO256.out BK258.out (by decide)) (fun _ hk => hk.2) (.int .i64 t252)) (fun _ hk => hk.2) (.int .i64 t253)) (fun _ hk => hk.2) (.slice Ao147 t254.length co147)) (fun _ h_ => h_.1))) hb); have n5_ := a_ (blk_below (g := gb194) (o := .cells #[.int .i64 a0_0, .int .i64 a0_1, .slice A0_2 l0_2.length c0_2] 30 (0, 0)) (by (with_reducible repeat (first | refine blk_drewN ?_ _ | refine blk_drew ?_ | refine blk_alloc ?_ _)); refine blk_far ?_ NB194_258.out _; refine blk_far ?_ NB194_258.out _; refine blk_far ?_ NB194_258.out _; exact B_ BK194.out) hb); have n6_ := a_ (blk_below (g := gb195) (o := .cells #[.int .i64 a1_0, .int .i64 a1_1, .int .i64 a1_2, .int .i64 a1_3] 48 (0, 0)) (by (with_reducible repeat (first | refine blk_drewN ?_ _ | refine blk_drew ?_ | refine blk_alloc ?_ _)); refine blk_far ?_ NB195_258.out _; refine blk_far ?_ NB195_258.out _; refine blk_far ?_ NB195_258.out _; exact B_ BK195.out) hb); have n7_ := a_ (blk_below (g := gb212) (o := .cells #[.int .i64 t206, .int .i64 t207, .slice Ao31 t208.length co31] 35 (0, 0)) (by (with_reducible repeat (first | refine blk_drewN ?_ _ | refine blk_drew ?_ | refine blk_alloc ?_ _)); refine blk_far ?_ NB212_258.out _; refine blk_far ?_ NB212_258.out _; refine blk_far ?_ NB212_258.out _; exact B_ BK212.out) hb); have n8_ := a_ (blk_below (g := gb218) (o := .cells #[.int .i64 t213, .int .i64 t214, .slice Ao41 t238.length co41] 35 (0, 0)) (by (with_reducible repeat (first | refine blk_drewN ?_ _ | refine blk_drew ?_ | refine blk_alloc ?_ _)); refine blk_far ?_ NB218_258.out _; refine blk_far ?_ NB218_258.out _; refine blk_far ?_ NB218_258.out _; exact B_ BK218.out) hb); have n9_ := a_ (blk_below (g := gb229) (o := .cells #[.int .i64 t223, .int .i64 t224, .slice Ao50 t225.length co50] 35 (0, 0)) (by (with_reducible repeat (first | refine blk_drewN ?_ _ | refine blk_drew ?_ | refine blk_alloc ?_ _)); refine blk_far ?_ NB229_258.out _; refine blk_far ?_ NB229_258.out _; refine blk_far ?_ NB229_258.out _; exact B_ BK229.out) hb); have n10_ := a_ (blk_below (g := gb258) (o := .cells #[.int .i64 t252, .int .i64 t253, .slice Ao147 t254.length co147] 35 (0, 0)) (by (with_reducible repeat (first | refine blk_drewN ?_ _ | refine blk_drew ?_ | refine blk_alloc ?_ _)); refine blk_put (cs := #[.int .i64 t252, .int .i64 t253, .slice none 0 0]) ?_ 2 _ rfl; (with_reducible repeat (first | refine blk_drewN ?_ _ | refine blk_drew ?_ | refine blk_alloc ?_ _)); refine blk_put (cs := #[.int .i64 t252, .int .i64 0, .slice none 0 0]) ?_ 1 _ rfl; (with_reducible repeat (first | refine blk_drewN ?_ _ | refine blk_drew ?_ | refine blk_alloc ?_ _)); refine blk_put (cs := #[.int .i64 0, .int .i64 0, .slice none 0 0]) ?_ 0 _ rfl; exact B_ BK258.out) hb); have n11_ := a_ (below_step (L6_ HB.out GE194.out GE195.out GE212.out GE218.out GE229.out GE258.out) hb); clear HO_213002; clear HO_219002; clear HO_230002; clear HO247; clear HO256; clear BK194; clear BK195; clear BK212; clear BK218; clear BK229; clear BK258; clear HB; have HO_213002 := n0_; have HO_219002 := n1_; have HO_230002 := n2_; have HO247 := n3_; have HO256 := n4_; have BK194 := n5_; have BK195 := n6_; have BK212 := n7_; have BK218 := n8_; have BK229 := n9_; have BK258 := n10_; have HB := n11_; clear n0_ n1_ n2_ n3_ n4_ n5_ n6_ n7_ n8_ n9_ n10_ n11_; (try clear hb); (try clear hb2); (try clear hk); (try clear hi)))
             go_meet
             case rel => exact ⟨_, (true), (by first | rfl | (simp; done) | (simp [*]; done)), H', ⟨by have := HJ15.out; have := HJ78.out; first | omega | exact Nat.le_refl _⟩, ⟨by (try simp only [hl219002_78]); (with_reducible repeat (first | apply Kd.R_alloc | apply Kd.R_drewN | apply Kd.R_drew)); exact Kd.R_mono HO_213002.out (fun _ hk => ⟨hk.2.2.1, ⟨hk.2.2.2, hk.2.1⟩⟩)⟩, ⟨by (try simp only [hl219002_78]); (with_reducible repeat (first | apply Kd.R_alloc | apply Kd.R_drewN | apply Kd.R_drew)); exact Kd.R_mono HO_219002.out (fun _ hk => ⟨hk.2.2.1, ⟨hk.2.2.2, hk.2.1⟩⟩)⟩, ⟨by (try simp only [hl219002_78]); (with_reducible repeat (first | apply Kd.R_alloc | apply Kd.R_drewN | apply Kd.R_drew)); exact Kd.R_mono HO_230002.out (fun _ hk => ⟨hk.2.2.1, ⟨hk.2.2.2, hk.2.1⟩⟩)⟩, ⟨by (try simp only [hl219002_78]); (with_reducible repeat (first | apply Kd.R_alloc | apply Kd.R_drewN | apply Kd.R_drew)); exact Kd.R_mono HO256.out (fun _ hk => ⟨hk.2.1, ⟨hk.2.2.1, hk.2.2.2⟩⟩)⟩, ⟨by (try simp only [hl219002_78]); exact B_ BK194.out⟩, ⟨by (try simp only [hl219002_78]); exact B_ BK195.out⟩, ⟨by (try simp only [hl219002_78]); exact B_ BK212.out⟩, ⟨by (try simp only [hl219002_78]); exact B_ BK218.out⟩, ⟨by (try simp only [hl219002_78]); exact B_ BK229.out⟩, ⟨by (try simp only [hl219002_78]); exact B_ BK258.out⟩, ⟨L6_ HB.out GE194.out GE195.out GE212.out GE218.out GE229.out GE258.out⟩⟩
           case rest =>
            clear HC129; obtain ⟨kq, x95_128, rfl, HA, HJ128, HO_213002, HO_219002, HO_230002, HO_259002, BK194, BK195, BK212, BK218, BK229, BK258, HB⟩ := hcut; have hl230002_128 := (Kd.R_reads' HO_230002.out).1; rw [hl230002_128] at HO_230002
            (try simp only [hl230002_128])
            (try simp only [hl230002_128] at BK194)
            (try simp only [hl230002_128] at BK195)
            (try simp only [hl230002_128] at BK212)
            (try simp only [hl230002_128] at BK218)
            (try simp only [hl230002_128] at BK229)
            (try simp only [hl230002_128] at BK258)
            (try simp only [hl230002_128] at HO_213002)
            (try simp only [hl230002_128] at HO_219002)
            (try simp only [hl230002_128] at HO_259002)
            cases kq with
            | zero => exact absurd HA.out (by simp [laws_FnExactAddResult.j2])
            | succ kj128 =>
             have H := HA.out; clear HA; simp only [laws_FnExactAddResult.j2] at H
             by_cases c175 : x95_128 = true
             ·
              subst c175; have H1 : (some false) = some r := by rw [if_pos rfl] at H; exact H
              clear H; have H := H1; clear H1; obtain rfl := Option.some.inj H
              go_wp2
              go_ret
              exact ⟨by first | rfl | (simp [errW_none, errW_some] <;> rfl) | (simp [*, errW_none, errW_some] <;> rfl), by repeat (first | (with_reducible first | exact HB.out | apply below_alloc | apply pw_below_drewN | apply below_drew1 | refine below_set ?_ GE194.out | refine below_set ?_ GE195.out | refine below_set ?_ GE212.out | refine below_set ?_ GE218.out | refine below_set ?_ GE229.out | refine below_set ?_ GE258.out) | exact HB.out)⟩
             ·
              replace c175 := Bool.eq_false_iff.mpr c175; subst c175; have H1 : ((laws_heldLeague.f kj128 t223 t224 t241 1).bind fun t260 => (if t260 < 0 then (some false) else (if t260 = t240 then (some true) else (some false)))) = some r := by rw [if_neg (show ¬ (false = true) by decide)] at H; exact H
              clear H; have H := H1; clear H1; replace H := Option.bind_eq_some_iff.mp H; obtain ⟨t260, A1760, H⟩ := H; replace H : (if t260 < 0 then (some false) else (if t260 = t240 then (some true) else (some false))) = some r := H; have A176 := a_ A1760; clear A1760
              by_cases c177 : t260 < 0
              ·
               rw [if_pos c177] at H; have c177b0 : decide (t260 < 0) = true := decide_eq_true c177; clear c177; obtain rfl := Option.some.inj H; have hnb178 := NB229_194.out; have hnc178 := NB194_229.out; have hnb179 := NB229_195.out; have hnc179 := NB195_229.out; have hnb180 := NB229_212.out; have hnc180 := NB212_229.out; have hnb181 := NB229_218.out; have hnc181 := NB218_229.out; have hnb182 := NB229_258.out; have hnc182 := NB258_229.out; have hcz183_0 : wc.cell? ⟨gb229, 0, none⟩ = some (.int .i64 t223) := c_ BK229.out 0; have hcz183_1 : wc.cell? ⟨gb229, 1, none⟩ = some (.int .i64 t224) := c_ BK229.out 1; have hcz183_2 : wc.cell? ⟨gb229, 2, none⟩ = some (.slice Ao50 t241.length co50) := c_ BK229.out 2; have hfz183_0 := blk_frozen BK229.out 0; have hfz183_1 := blk_frozen BK229.out 1; have hfz183_2 := blk_frozen BK229.out 2
               go_wp2_with (first | ((with_reducible refine gate_callee (f := 35) rfl ?_); refine goesL_ (some 98) rfl rfl Try.func35 (by kernel_rfl) rfl #[.agg #[.int .i64 t223, .int .i64 t224, .slice Ao50 t241.length co50], .int .i64 1] rfl (by (try simp only [m1_, m2_, m3_]); first | done | rfl) ?_; (with_reducible refine (laws_heldLeague.calls kj128 t223 t224 _ _ t241 1 t260 _ ?side1 ?side2 A176.out).mono ?_); (case side1 => repeat (first | exact (Kd.R_reads' HO_230002.out).2.2 | (with_reducible refine Kd.C_alloc ?_ _) | (with_reducible refine Kd.C_drewN ?_ _) | (with_reducible refine Kd.C_drew ?_))); (case side2 => exact (Kd.R_reads' HO_230002.out).2.1); rintro e w184 ⟨rfl, hb⟩; refine ⟨_, rfl, ?_⟩; have n0_ := a_ (Kd.R_below (R_ HO_213002.out) hb); have n1_ := a_ (Kd.R_below (R_ HO_219002.out) hb); have n2_ := a_ (Kd.R_below (R_ HO_230002.out) hb); have n3_ := a_ (Kd.R_below (R_ HO_259002.out) hb); have n4_ := bb_ BK194 hb; have n5_ := bb_ BK195 hb; have n6_ := bb_ BK212 hb; have n7_ := bb_ BK218 hb; have n8_ := bb_ BK229 hb; have n9_ := bb_ BK258 hb; have n10_ := a_ (below_step (L6_ HB.out GE194.out GE195.out GE212.out GE218.out GE229.out GE258.out) hb); clear HO_213002; clear HO_219002; clear HO_230002; clear HO_259002; clear BK194; clear BK195; clear BK212; clear BK218; clear BK229; clear BK258; clear HB; have HO_213002 := n0_; have HO_219002 := n1_; have HO_230002 := n2_; have HO_259002 := n3_; have BK194 := n4_; have BK195 := n5_; have BK212 := n6_; have BK218 := n7_; have BK229 := n8_; have BK258 := n9_; have HB := n10_; clear n0_ n1_ n2_ n3_ n4_ n5_ n6_ n7_ n8_ n9_ n10_; (try clear hb); (try clear hb2); (try clear hk); (try clear hi)))
               go_ret
               exact ⟨by first | rfl | (simp [errW_none, errW_some] <;> rfl) | (simp [*, errW_none, errW_some] <;> rfl), by repeat (first | (with_reducible first | exact HB.out | apply below_alloc | apply pw_below_drewN | apply below_drew1 | refine below_set ?_ GE194.out | refine below_set ?_ GE195.out | refine below_set ?_ GE212.out | refine below_set ?_ GE218.out | refine below_set ?_ GE229.out | refine below_set ?_ GE258.out) | exact HB.out)⟩
              ·
               rw [if_neg c177] at H; have c177b0 : decide (t260 < 0) = false := decide_eq_false c177; clear c177
               by_cases c185 : t260 = t240
               ·
                rw [if_pos c185] at H; have c185b0 : (t260 == t240) = true := beq_iff_eq.mpr c185; have c185b1 : (t260 != t240) = false := bne_eq_false_iff_eq.mpr c185; clear c185; obtain rfl := Option.some.inj H; have hnb186 := NB229_194.out; have hnc186 := NB194_229.out; have hnb187 := NB229_195.out; have hnc187 := NB195_229.out; have hnb188 := NB229_212.out; have hnc188 := NB212_229.out; have hnb189 := NB229_218.out; have hnc189 := NB218_229.out; have hnb190 := NB229_258.out; have hnc190 := NB258_229.out; have hcz191_0 : wc.cell? ⟨gb229, 0, none⟩ = some (.int .i64 t223) := c_ BK229.out 0; have hcz191_1 : wc.cell? ⟨gb229, 1, none⟩ = some (.int .i64 t224) := c_ BK229.out 1; have hcz191_2 : wc.cell? ⟨gb229, 2, none⟩ = some (.slice Ao50 t241.length co50) := c_ BK229.out 2; have hfz191_0 := blk_frozen BK229.out 0; have hfz191_1 := blk_frozen BK229.out 1; have hfz191_2 := blk_frozen BK229.out 2
                go_wp2_with (first | ((with_reducible refine gate_callee (f := 35) rfl ?_); refine goesL_ (some 98) rfl rfl Try.func35 (by kernel_rfl) rfl #[.agg #[.int .i64 t223, .int .i64 t224, .slice Ao50 t241.length co50], .int .i64 1] rfl (by (try simp only [m1_, m2_, m3_]); first | done | rfl) ?_; (with_reducible refine (laws_heldLeague.calls kj128 t223 t224 _ _ t241 1 t260 _ ?side1 ?side2 A176.out).mono ?_); (case side1 => repeat (first | exact (Kd.R_reads' HO_230002.out).2.2 | (with_reducible refine Kd.C_alloc ?_ _) | (with_reducible refine Kd.C_drewN ?_ _) | (with_reducible refine Kd.C_drew ?_))); (case side2 => exact (Kd.R_reads' HO_230002.out).2.1); rintro e w192 ⟨rfl, hb⟩; refine ⟨_, rfl, ?_⟩; have n0_ := a_ (Kd.R_below (R_ HO_213002.out) hb); have n1_ := a_ (Kd.R_below (R_ HO_219002.out) hb); have n2_ := a_ (Kd.R_below (R_ HO_230002.out) hb); have n3_ := a_ (Kd.R_below (R_ HO_259002.out) hb); have n4_ := bb_ BK194 hb; have n5_ := bb_ BK195 hb; have n6_ := bb_ BK212 hb; have n7_ := bb_ BK218 hb; have n8_ := bb_ BK229 hb; have n9_ := bb_ BK258 hb; have n10_ := a_ (below_step (L6_ HB.out GE194.out GE195.out GE212.out GE218.out GE229.out GE258.out) hb); clear HO_213002; clear HO_219002; clear HO_230002; clear HO_259002; clear BK194; clear BK195; clear BK212; clear BK218; clear BK229; clear BK258; clear HB; have HO_213002 := n0_; have HO_219002 := n1_; have HO_230002 := n2_; have HO_259002 := n3_; have BK194 := n4_; have BK195 := n5_; have BK212 := n6_; have BK218 := n7_; have BK229 := n8_; have BK258 := n9_; have HB := n10_; clear n0_ n1_ n2_ n3_ n4_ n5_ n6_ n7_ n8_ n9_ n10_; (try clear hb); (try clear hb2); (try clear hk); (try clear hi)))
                go_ret
                exact ⟨by first | rfl | (simp [errW_none, errW_some] <;> rfl) | (simp [*, errW_none, errW_some] <;> rfl), by repeat (first | (with_reducible first | exact HB.out | apply below_alloc | apply pw_below_drewN | apply below_drew1 | refine below_set ?_ GE194.out | refine below_set ?_ GE195.out | refine below_set ?_ GE212.out | refine below_set ?_ GE218.out | refine below_set ?_ GE229.out | refine below_set ?_ GE258.out) | exact HB.out)⟩
               ·
                rw [if_neg c185] at H; have c185b0 : (t260 == t240) = false := beq_eq_false_iff_ne.mpr c185; have c185b1 : (t260 != t240) = true := bne_iff_ne.mpr c185; obtain rfl := Option.some.inj H; have hnb193 := NB229_194.out; have hnc193 := NB194_229.out; have hnb194 := NB229_195.out; have hnc194 := NB195_229.out; have hnb195 := NB229_212.out; have hnc195 := NB212_229.out; have hnb196 := NB229_218.out; have hnc196 := NB218_229.out; have hnb197 := NB229_258.out; have hnc197 := NB258_229.out; have hcz198_0 : wc.cell? ⟨gb229, 0, none⟩ = some (.int .i64 t223) := c_ BK229.out 0; have hcz198_1 : wc.cell? ⟨gb229, 1, none⟩ = some (.int .i64 t224) := c_ BK229.out 1; have hcz198_2 : wc.cell? ⟨gb229, 2, none⟩ = some (.slice Ao50 t241.length co50) := c_ BK229.out 2; have hfz198_0 := blk_frozen BK229.out 0; have hfz198_1 := blk_frozen BK229.out 1; have hfz198_2 := blk_frozen BK229.out 2
                go_wp2_with (first | ((with_reducible refine gate_callee (f := 35) rfl ?_); refine goesL_ (some 98) rfl rfl Try.func35 (by kernel_rfl) rfl #[.agg #[.int .i64 t223, .int .i64 t224, .slice Ao50 t241.length co50], .int .i64 1] rfl (by (try simp only [m1_, m2_, m3_]); first | done | rfl) ?_; (with_reducible refine (laws_heldLeague.calls kj128 t223 t224 _ _ t241 1 t260 _ ?side1 ?side2 A176.out).mono ?_); (case side1 => repeat (first | exact (Kd.R_reads' HO_230002.out).2.2 | (with_reducible refine Kd.C_alloc ?_ _) | (with_reducible refine Kd.C_drewN ?_ _) | (with_reducible refine Kd.C_drew ?_))); (case side2 => exact (Kd.R_reads' HO_230002.out).2.1); rintro e w199 ⟨rfl, hb⟩; refine ⟨_, rfl, ?_⟩; have n0_ := a_ (Kd.R_below (R_ HO_213002.out) hb); have n1_ := a_ (Kd.R_below (R_ HO_219002.out) hb); have n2_ := a_ (Kd.R_below (R_ HO_230002.out) hb); have n3_ := a_ (Kd.R_below (R_ HO_259002.out) hb); have n4_ := bb_ BK194 hb; have n5_ := bb_ BK195 hb; have n6_ := bb_ BK212 hb; have n7_ := bb_ BK218 hb; have n8_ := bb_ BK229 hb; have n9_ := bb_ BK258 hb; have n10_ := a_ (below_step (L6_ HB.out GE194.out GE195.out GE212.out GE218.out GE229.out GE258.out) hb); clear HO_213002; clear HO_219002; clear HO_230002; clear HO_259002; clear BK194; clear BK195; clear BK212; clear BK218; clear BK229; clear BK258; clear HB; have HO_213002 := n0_; have HO_219002 := n1_; have HO_230002 := n2_; have HO_259002 := n3_; have BK194 := n4_; have BK195 := n5_; have BK212 := n6_; have BK218 := n7_; have BK229 := n8_; have BK258 := n9_; have HB := n10_; clear n0_ n1_ n2_ n3_ n4_ n5_ n6_ n7_ n8_ n9_ n10_; (try clear hb); (try clear hb2); (try clear hk); (try clear hi)))
                go_ret
                exact ⟨by first | rfl | (simp [errW_none, errW_some] <;> rfl) | (simp [*, errW_none, errW_some] <;> rfl), by repeat (first | (with_reducible first | exact HB.out | apply below_alloc | apply pw_below_drewN | apply below_drew1 | refine below_set ?_ GE194.out | refine below_set ?_ GE195.out | refine below_set ?_ GE212.out | refine below_set ?_ GE218.out | refine below_set ?_ GE229.out | refine below_set ?_ GE258.out) | exact HB.out)⟩
          ·
           rw [if_neg c125] at H; have c125b0 : (t242 == t240) = false := beq_eq_false_iff_ne.mpr c125; have c125b1 : (t242 != t240) = true := bne_iff_ne.mpr c125; obtain rfl := Option.some.inj H; have hnb200 := NB229_194.out; have hnc200 := NB194_229.out; have hnb201 := NB229_195.out; have hnc201 := NB195_229.out; have hnb202 := NB229_212.out; have hnc202 := NB212_229.out; have hnb203 := NB229_218.out; have hnc203 := NB218_229.out; have hcz204_0 : wc.cell? ⟨gb229, 0, none⟩ = some (.int .i64 t223) := c_ BK229.out 0; have hcz204_1 : wc.cell? ⟨gb229, 1, none⟩ = some (.int .i64 t224) := c_ BK229.out 1; have hcz204_2 : wc.cell? ⟨gb229, 2, none⟩ = some (.slice Ao50 t225.length co50) := c_ BK229.out 2; have hfz204_0 := blk_frozen BK229.out 0; have hfz204_1 := blk_frozen BK229.out 1; have hfz204_2 := blk_frozen BK229.out 2
           go_wp2_with (first | ((with_reducible refine gate_callee (f := 34) rfl ?_); refine goesL_ (some 70) rfl rfl Try.func34 (by kernel_rfl) rfl #[.agg #[.int .i64 t223, .int .i64 t224, .slice Ao50 t225.length co50], .int .i64 1] rfl (by (try simp only [m1_, m2_, m3_]); first | done | rfl) ?_; (with_reducible refine (laws_markLeague.calls kj78 t223 t224 (fun k_ => some k_ = (.slice Ao50 t225.length co50 : Value).ownBlock) (.slice Ao50 t225.length co50) t225 1 t240 t241 w _ ?side1 ?side2 A114.out).mono ?_); (case side1 => repeat (first | (with_reducible first | exact HB.out | apply below_alloc | apply pw_below_drewN | apply below_drew1 | refine below_set ?_ GE194.out | refine below_set ?_ GE195.out | refine below_set ?_ GE212.out | refine below_set ?_ GE218.out | refine below_set ?_ GE229.out) | exact HB.out)); (case side2 => exact Kd.R_tight rfl HO_230002.out); rintro e w205 ⟨rfl, hy0, hb, hkp⟩; refine ⟨_, rfl, ?_⟩; have n0_ := a_ (Kd.R_mono (ok' := fun k_ => some k_ ≠ (.slice Ao41 t238.length co41 : Value).ownBlock ∧ some k_ ≠ (.slice Ao50 t225.length co50 : Value).ownBlock) (Kd.R_keptB (HO_213002.out) hkp (fun k_ hk_ hs_ => (hk_.2) hs_)) (fun k_ hk_ => ⟨hk_.1.1, hk_.1.2⟩)); have n1_ := a_ (Kd.R_mono (ok' := fun k_ => some k_ ≠ (.slice Ao31 t208.length co31 : Value).ownBlock ∧ some k_ ≠ (.slice Ao50 t225.length co50 : Value).ownBlock) (Kd.R_keptB (HO_219002.out) hkp (fun k_ hk_ hs_ => (hk_.2) hs_)) (fun k_ hk_ => ⟨hk_.1.1, hk_.1.2⟩)); have n2_ := a_ (Kd.R_reok rfl hy0 (fun k_ e_ => HO_230002.out.1 k_ e_)); have n3_ := a_ (blk_kept (B_ BK194.out) hkp (fun hs_ => (fun e_ => (Kd.R_ne HO_230002.out BK194.out (by decide)) e_) hs_)); have n4_ := a_ (blk_kept (B_ BK195.out) hkp (fun hs_ => (fun e_ => (Kd.R_ne HO_230002.out BK195.out (by decide)) e_) hs_)); have n5_ := a_ (blk_kept (B_ BK212.out) hkp (fun hs_ => (fun e_ => (Kd.R_ne HO_230002.out BK212.out (by decide)) e_) hs_)); have n6_ := a_ (blk_kept (B_ BK218.out) hkp (fun hs_ => (fun e_ => (Kd.R_ne HO_230002.out BK218.out (by decide)) e_) hs_)); have n7_ := a_ (blk_kept (B_ BK229.out) hkp (fun hs_ => (fun e_ => (Kd.R_ne HO_230002.out BK229.out (by decide)) e_) hs_)); have n8_ := a_ (hb); clear HO_213002; clear HO_219002; clear HO_230002; clear BK194; clear BK195; clear BK212; clear BK218; clear BK229; clear HB; have HO_213002 := n0_; have HO_219002 := n1_; have HO_230002 := n2_; have BK194 := n3_; have BK195 := n4_; have BK212 := n5_; have BK218 := n6_; have BK229 := n7_; have HB := n8_; clear n0_ n1_ n2_ n3_ n4_ n5_ n6_ n7_ n8_; (try clear hb); (try clear hkp); (try clear hy0); have hcz206_0 : w205.cell? ⟨gb229, 0, none⟩ = some (.int .i64 t223) := c_ BK229.out 0; have hcz206_1 : w205.cell? ⟨gb229, 1, none⟩ = some (.int .i64 t224) := c_ BK229.out 1; have hcz206_2 : w205.cell? ⟨gb229, 2, none⟩ = some (.slice Ao50 t225.length co50) := c_ BK229.out 2; have hfz206_0 := blk_frozen BK229.out 0; have hfz206_1 := blk_frozen BK229.out 1; have hfz206_2 := blk_frozen BK229.out 2) | ((with_reducible refine gate_callee (f := 35) rfl ?_); refine goesL_ (some 73) rfl rfl Try.func35 (by kernel_rfl) rfl #[.agg #[.int .i64 t223, .int .i64 t224, .slice Ao50 t241.length co50], .int .i64 1] rfl (by (try simp only [List.map_toArray, List.map_cons, List.map_nil]); first | done | (rw [show t241.length = t225.length from (Kd.R_reads' HO_230002.out).1.symm] <;> rfl) | rfl | (simp only [List.length_drop, List.length_take]; rfl)) ?_; (with_reducible refine (laws_heldLeague.calls kj78 t223 t224 _ _ t241 1 t242 _ ?side1 ?side2 A115.out).mono ?_); (case side1 => repeat (first | exact (Kd.R_reads' HO_230002.out).2.2 | (with_reducible refine Kd.C_alloc ?_ _) | (with_reducible refine Kd.C_drewN ?_ _) | (with_reducible refine Kd.C_drew ?_))); (case side2 => rw [show t241.length = t225.length from (Kd.R_reads' HO_230002.out).1.symm]; exact (Kd.R_reads' HO_230002.out).2.1); rintro e w207 ⟨rfl, hb⟩; refine ⟨_, rfl, ?_⟩; have n0_ := a_ (Kd.R_below (R_ HO_213002.out) hb); have n1_ := a_ (Kd.R_below (R_ HO_219002.out) hb); have n2_ := a_ (Kd.R_below (R_ HO_230002.out) hb); have n3_ := bb_ BK194 hb; have n4_ := bb_ BK195 hb; have n5_ := bb_ BK212 hb; have n6_ := bb_ BK218 hb; have n7_ := bb_ BK229 hb; have n8_ := a_ (below_step (L6_ HB.out GE194.out GE195.out GE212.out GE218.out GE229.out GE229.out) hb); clear HO_213002; clear HO_219002; clear HO_230002; clear BK194; clear BK195; clear BK212; clear BK218; clear BK229; clear HB; have HO_213002 := n0_; have HO_219002 := n1_; have HO_230002 := n2_; have BK194 := n3_; have BK195 := n4_; have BK212 := n5_; have BK218 := n6_; have BK229 := n7_; have HB := n8_; clear n0_ n1_ n2_ n3_ n4_ n5_ n6_ n7_ n8_; (try clear hb); (try clear hb2); (try clear hk); (try clear hi)))
           go_ret
           exact ⟨by first | rfl | (simp [errW_none, errW_some] <;> rfl) | (simp [*, errW_none, errW_some] <;> rfl), by repeat (first | (with_reducible first | exact HB.out | apply below_alloc | apply pw_below_drewN | apply below_drew1 | refine below_set ?_ GE194.out | refine below_set ?_ GE195.out | refine below_set ?_ GE212.out | refine below_set ?_ GE218.out | refine below_set ?_ GE229.out) | exact HB.out)⟩
     ·
      replace c77 := Bool.eq_false_iff.mpr c77; subst c77; have H1 : (some false) = some r := by rw [if_neg (show ¬ (false = true) by decide)] at H; exact H
      clear H; have H := H1; clear H1; obtain rfl := Option.some.inj H
      try go_wp2
      have n0_ := a_ (Kd.R_drew HO_213002.out); have n1_ := a_ (Kd.R_drew HO_219002.out); have n2_ := a_ (Kd.R_drew HO_230002.out); have n3_ := a_ (blk_drew BK194.out); have n4_ := a_ (blk_drew BK195.out); have n5_ := a_ (blk_drew BK212.out); have n6_ := a_ (blk_drew BK218.out); have n7_ := a_ (blk_drew BK229.out); have n8_ := a_ (below_drew1 HB.out); clear HO_213002; clear HO_219002; clear HO_230002; clear BK194; clear BK195; clear BK212; clear BK218; clear BK229; clear HB; have HO_213002 := n0_; have HO_219002 := n1_; have HO_230002 := n2_; have BK194 := n3_; have BK195 := n4_; have BK212 := n5_; have BK218 := n6_; have BK229 := n7_; have HB := n8_; clear n0_ n1_ n2_ n3_ n4_ n5_ n6_ n7_ n8_
      refine start_ (n := 5) (S := fun w' => w'.cell? ⟨gb218, 0, none⟩ = some (.int .i64 t213) ∧ w'.cell? ⟨gb218, 1, none⟩ = some (.int .i64 t214) ∧ w'.cell? ⟨gb218, 2, none⟩ = some (.slice Ao41 t215.length co41) ∧ w'.cell? ⟨gb194, 0, none⟩ = some (.int .i64 a0_0) ∧ w'.cell? ⟨gb194, 1, none⟩ = some (.int .i64 a0_1) ∧ w'.cell? ⟨gb194, 2, none⟩ = some (.slice A0_2 l0_2.length c0_2)) (ds := []) #[false, false, false, false, false] (by kernel_rfl) rfl rfl ⟨c_ BK218.out 0, c_ BK218.out 1, c_ BK218.out 2, c_ BK194.out 0, c_ BK194.out 1, c_ BK194.out 2⟩ (fun hHeld => ?_)
      generalize wc.drew = w208 at HO_213002 HO_219002 HO_230002 BK194 BK195 BK212 BK218 BK229 HB hHeld ⊢
      refine take_ (i := 0) (N := some 47) (v := ?_) (a' := ?_) #[true, false, false, false, false] rfl rfl (by kernel_rfl) (fun _ _ _ h => h) (Or.inl ⟨by rfl, ?_⟩) hHeld ?_ ?_
      rotate_left
      ·
       rintro w' ⟨s0, s1, s2, s3, s4, s5⟩
       go_simp
       with_reducible rfl
      rotate_left
      ·
       simp only [Act.put, List.setIfInBounds_toArray, List.set_cons_zero, List.set_cons_succ, i64_w, i32_w]
       rfl
      refine take_ (i := 1) (N := some 48) (v := ?_) (a' := ?_) #[true, true, false, false, false] rfl rfl (by kernel_rfl) (fun _ _ _ h => h) (Or.inl ⟨by rfl, ?_⟩) hHeld ?_ ?_
      rotate_left
      ·
       rintro w' ⟨s0, s1, s2, s3, s4, s5⟩
       go_simp
       with_reducible rfl
      rotate_left
      ·
       simp only [Act.put, List.setIfInBounds_toArray, List.set_cons_zero, List.set_cons_succ, i64_w, i32_w]
       rfl
      refine one_ (i := 2) (N := some 49) #[true, true, true, false, false] rfl rfl (by kernel_rfl) (by decide) (fun K hK => ?_)
      refine goes_ Try.func22 (by kernel_rfl) rfl #[.agg #[.int .i64 a0_0, .int .i64 a0_1, .slice A0_2 l0_2.length c0_2]] (by rfl) rfl rfl (by (try simp only [m1_, m2_, m3_]); first | done | rfl) ?_
      with_reducible refine (laws_toLeague.calls kj15 a0_0 a0_1 _ _ l0_2 t231 t232 t233 _ ?side1 ?side2 A75.out).mono ?_
      (case side1 => repeat (first | exact (Kd.C_below HR0_2.out HB.out) | (with_reducible refine Kd.C_alloc ?_ _) | (with_reducible refine Kd.C_drewN ?_ _) | (with_reducible refine Kd.C_drew ?_)))
      (case side2 => exact HC0_2.out)
      rintro e w209 ⟨v234, rfl, ho0, hb⟩
      refine ⟨_, rfl, ?_⟩
      have n0_ := a_ (Kd.R_elder' (R_ HO_213002.out) (Kd.R_base ho0) hb); have n1_ := a_ (Kd.R_elder' (R_ HO_219002.out) (Kd.R_base ho0) hb); have n2_ := a_ (Kd.R_elder' (R_ HO_230002.out) (Kd.R_base ho0) hb); have n3_ := a_ (Kd.R_lower (Kd.R_new' (Kd.R_new' (Kd.R_new' ho0 (Kd.R_lt (R_ HO_213002.out))) (Kd.R_lt (R_ HO_219002.out))) (Kd.R_lt (R_ HO_230002.out))) (below_size (L6_ HB.out GE194.out GE195.out GE212.out GE218.out GE229.out GE229.out))); have n4_ := bb_ BK194 hb; have n5_ := bb_ BK195 hb; have n6_ := bb_ BK212 hb; have n7_ := bb_ BK218 hb; have n8_ := bb_ BK229 hb; have n9_ := a_ (below_step (L6_ HB.out GE194.out GE195.out GE212.out GE218.out GE229.out GE229.out) hb); clear HO_213002; clear HO_219002; clear HO_230002; clear BK194; clear BK195; clear BK212; clear BK218; clear BK229; clear HB; have HO_213002 := n0_; have HO_219002 := n1_; have HO_230002 := n2_; have HO235 := n3_; have BK194 := n4_; have BK195 := n5_; have BK212 := n6_; have BK218 := n7_; have BK229 := n8_; have HB := n9_; clear n0_ n1_ n2_ n3_ n4_ n5_ n6_ n7_ n8_ n9_
      (try clear hb)
      (try clear hb2)
      (try clear hk)
      (try clear hi)
      (try clear ho0)
      obtain ⟨Ao210, co210, eo210⟩ := Kd.R_slice HO235.out
      (first | subst eo210 | (injection eo210 with f1_ f2_ f3_; have f4_ := f1_.symm; have f5_ := f3_.symm; clear f1_ f2_ f3_; subst f4_; subst f5_))
      refine hK.out _ _ ⟨c_ BK218.out 0, c_ BK218.out 1, c_ BK218.out 2, c_ BK194.out 0, c_ BK194.out 1, c_ BK194.out 2⟩ (fun hHeld => ?_)
      clear hK K
      refine norm_ (a' := ?_) ?_ ?_
      rotate_left
      ·
       show Act.put _ (some 49) _ = _
       simp only [Act.put, List.setIfInBounds_toArray, List.set_cons_zero, List.set_cons_succ, i64_w, i32_w]
       rfl
      refine one_ (i := 3) (N := some 50) #[true, true, true, true, false] rfl rfl (by kernel_rfl) (by decide) (fun K hK => ?_)
      refine goes_ Try.func24 (by kernel_rfl) rfl #[.agg #[.int .i64 t213, .int .i64 t214, .slice Ao41 t215.length co41], .agg #[.int .i64 t231, .int .i64 t232, .slice Ao210 t233.length co210]] (by rfl) rfl rfl (by (try simp only [m1_, m2_, m3_]); first | done | rfl) ?_
      with_reducible refine (laws_eqLeague.calls kj15 t213 t214 _ _ t215 t231 t232 _ _ t233 false _ ?side1 ?side2 ?side3 ?side4 A76.out).mono ?_
      (case side1 => repeat (first | exact (Kd.R_reads' HO_219002.out).2.2 | (with_reducible refine Kd.C_alloc ?_ _) | (with_reducible refine Kd.C_drewN ?_ _) | (with_reducible refine Kd.C_drew ?_)))
      (case side2 => exact (Kd.R_reads' HO_219002.out).2.1)
      (case side3 => repeat (first | exact (Kd.R_reads' HO235.out).2.2 | (with_reducible refine Kd.C_alloc ?_ _) | (with_reducible refine Kd.C_drewN ?_ _) | (with_reducible refine Kd.C_drew ?_)))
      (case side4 => exact (Kd.R_reads' HO235.out).2.1)
      rintro e w211 ⟨rfl, hb⟩
      refine ⟨_, rfl, ?_⟩
      have n0_ := a_ (Kd.R_below (R_ HO_213002.out) hb); have n1_ := a_ (Kd.R_below (R_ HO_219002.out) hb); have n2_ := a_ (Kd.R_below (R_ HO_230002.out) hb); have n3_ := a_ (Kd.R_below (R_ HO235.out) hb); have n4_ := bb_ BK194 hb; have n5_ := bb_ BK195 hb; have n6_ := bb_ BK212 hb; have n7_ := bb_ BK218 hb; have n8_ := bb_ BK229 hb; have n9_ := a_ (below_step (L6_ HB.out GE194.out GE195.out GE212.out GE218.out GE229.out GE229.out) hb); clear HO_213002; clear HO_219002; clear HO_230002; clear HO235; clear BK194; clear BK195; clear BK212; clear BK218; clear BK229; clear HB; have HO_213002 := n0_; have HO_219002 := n1_; have HO_230002 := n2_; have HO235 := n3_; have BK194 := n4_; have BK195 := n5_; have BK212 := n6_; have BK218 := n7_; have BK229 := n8_; have HB := n9_; clear n0_ n1_ n2_ n3_ n4_ n5_ n6_ n7_ n8_ n9_
      (try clear hb)
      (try clear hb2)
      (try clear hk)
      (try clear hi)
      refine hK.out _ _ ⟨c_ BK218.out 0, c_ BK218.out 1, c_ BK218.out 2, c_ BK194.out 0, c_ BK194.out 1, c_ BK194.out 2⟩ (fun hHeld => ?_)
      clear hK K
      refine norm_ (a' := ?_) ?_ ?_
      rotate_left
      ·
       show Act.put _ (some 50) _ = _
       simp only [Act.put, List.setIfInBounds_toArray, List.set_cons_zero, List.set_cons_succ, i64_w, i32_w]
       rfl
      refine pure_ (i := 4) (N := some 51) (v := ?_) (a' := ?_) #[true, true, true, true, true] rfl rfl (by kernel_rfl) (fun _ _ _ h => h) (Or.inl ⟨by rfl, ?_⟩) ?_ ?_
      rotate_left
      ·
       intro w'
       go_simp
       with_reducible rfl
      rotate_left
      ·
       simp only [Act.put, List.setIfInBounds_toArray, List.set_cons_zero, List.set_cons_succ, i64_w, i32_w]
       rfl
      refine done_ (by kernel_rfl) ?_
      try go_wp2
      go_ret
      exact ⟨by first | rfl | (simp [errW_none, errW_some] <;> rfl) | (simp [*, errW_none, errW_some] <;> rfl), by repeat (first | (with_reducible first | exact HB.out | apply below_alloc | apply pw_below_drewN | apply below_drew1 | refine below_set ?_ GE194.out | refine below_set ?_ GE195.out | refine below_set ?_ GE212.out | refine below_set ?_ GE218.out | refine below_set ?_ GE229.out) | exact HB.out)⟩

end Go.Proofs.Ytolcneiniojdfaa.QFnExactAddResult
