/- The fewest darts for each score: the function, printed, and the walk of its second half. No condition. -/
import Derived.Test.YtacmfgbeaoalfaacQFnDartsFinishx0
import Derived.Test.YtacmfgbeaoalfaacGSco
import Derived.Test.YtacmfgbeaoalfaacGBrd
import Derived.Test.YtacmfgbeaoalfaacGQ
namespace Go.Proofs.Ytacmfgbeaoalfaa.QFnDartsFinish
open Go.RowKit Go.Proofs.YtacmfgbeaoalfaaW.PrintWords Go.Proofs.YtacmfgbeaoalfaaW.PrintLast Go.Proofs.YtacmfgbeaoalfaaW.PrintMore Go.Proofs.Ytacmfgbeaoalfaa.Sh
attribute [local go_sem] max2_int min2_int max_two min_two max_three min_three max_four min_four
set_option linter.unusedVariables false
set_option linter.unusedSimpArgs false
mutual
def fewP.l0 : Nat → Bool → List Int → Int → Option (List Int)
 | 0, _, _, _ => none
 | k + 1, x0, x3, x4 => if x4 ≤ 1001 then (if 0 ≤ x4 then (if x4 < (x3.length : Int) then ((impl_board.f).bind fun t106 => (fewP.l1 k x0 (x3.set (x4 : Int).toNat (-1)) x4 t106 (t106.length : Int) 0)) else (none)) else (none)) else (if x0 = true then (if 1002 ≤ 35184372088832 then ((some (List.replicate 1002 0 : List Int)).bind fun y124 => (fewP.l2 k x3 y124 (y124.length : Int) 0)) else (none)) else (some x3))
def fewP.l1 : Nat → Bool → List Int → Int → List (S43) → Int → Int → Option (List Int)
 | 0, _, _, _, _, _, _ => none
 | k + 1, x0, x3, x4, x19, x20, x21 => if x21 < x20 then (if 0 ≤ x21 then (if x21 < (x19.length : Int) then ((impl_Dart_score.f ((rd_T43 x19 x21).f0) ((rd_T43 x19 x21).f1)).bind fun t111 => (if t111 ≤ x4 then ((impl_Dart_score.f ((rd_T43 x19 x21).f0) ((rd_T43 x19 x21).f1)).bind fun t112 => (if 0 ≤ (wrap64 (x4 - t112)) then (if (wrap64 (x4 - t112)) < (x3.length : Int) then (if (rd x3 (wrap64 (x4 - t112))) ≥ 0 then (if 0 ≤ x4 then (if x4 < (x3.length : Int) then (if (rd x3 x4) < 0 then ((impl_Dart_score.f ((rd_T43 x19 x21).f0) ((rd_T43 x19 x21).f1)).bind fun t115 => (if 0 ≤ (wrap64 (x4 - t115)) then (if (wrap64 (x4 - t115)) < (x3.length : Int) then (fewP.l1 k x0 (x3.set (x4 : Int).toNat (wrap64 ((rd x3 (wrap64 (x4 - t115))) + 1))) x4 x19 x20 (wrap64 (x21 + 1))) else (none)) else (none))) else ((impl_Dart_score.f ((rd_T43 x19 x21).f0) ((rd_T43 x19 x21).f1)).bind fun t118 => (if 0 ≤ (wrap64 (x4 - t118)) then (if (wrap64 (x4 - t118)) < (x3.length : Int) then (if (wrap64 ((rd x3 (wrap64 (x4 - t118))) + 1)) < (rd x3 x4) then ((impl_Dart_score.f ((rd_T43 x19 x21).f0) ((rd_T43 x19 x21).f1)).bind fun t121 => (if 0 ≤ (wrap64 (x4 - t121)) then (if (wrap64 (x4 - t121)) < (x3.length : Int) then (fewP.l1 k x0 (x3.set (x4 : Int).toNat (wrap64 ((rd x3 (wrap64 (x4 - t121))) + 1))) x4 x19 x20 (wrap64 (x21 + 1))) else (none)) else (none))) else (fewP.l1 k x0 x3 x4 x19 x20 (wrap64 (x21 + 1)))) else (none)) else (none)))) else (none)) else (none)) else (fewP.l1 k x0 x3 x4 x19 x20 (wrap64 (x21 + 1)))) else (none)) else (none))) else (fewP.l1 k x0 x3 x4 x19 x20 (wrap64 (x21 + 1))))) else (none)) else (none)) else (fewP.l0 k x0 x3 (wrap64 (x4 + 1)))
def fewP.l2 : Nat → List Int → List Int → Int → Int → Option (List Int)
 | 0, _, _, _, _ => none
 | k + 1, x3, x7, x78, x79 => if x79 < x78 then (if 0 ≤ x79 then (if x79 < (x7.length : Int) then ((impl_board.f).bind fun t128 => (fewP.l3 k x3 (x7.set (x79 : Int).toNat (-1)) x79 x78 x79 t128 (t128.length : Int) 0)) else (none)) else (none)) else (some x7)
def fewP.l3 : Nat → List Int → List Int → Int → Int → Int → List (S43) → Int → Int → Option (List Int)
 | 0, _, _, _, _, _, _, _, _ => none
 | k + 1, x3, x7, x8, x78, x79, x85, x86, x87 => if x87 < x86 then (if 0 ≤ x87 then (if x87 < (x85.length : Int) then (if ((rd_T43 x85 x87).f1) = 2 then ((impl_Dart_score.f ((rd_T43 x85 x87).f0) ((rd_T43 x85 x87).f1)).bind fun t133 => (if t133 ≤ x8 then (if 0 ≤ x8 then (if x8 < (x7.length : Int) then (if (rd x7 x8) < 0 then ((impl_Dart_score.f ((rd_T43 x85 x87).f0) ((rd_T43 x85 x87).f1)).bind fun t135 => (if 0 ≤ (wrap64 (x8 - t135)) then (if (wrap64 (x8 - t135)) < (x3.length : Int) then (fewP.l3 k x3 (x7.set (x8 : Int).toNat (wrap64 ((rd x3 (wrap64 (x8 - t135))) + 1))) x8 x78 x79 x85 x86 (wrap64 (x87 + 1))) else (none)) else (none))) else ((impl_Dart_score.f ((rd_T43 x85 x87).f0) ((rd_T43 x85 x87).f1)).bind fun t138 => (if 0 ≤ (wrap64 (x8 - t138)) then (if (wrap64 (x8 - t138)) < (x3.length : Int) then (if (wrap64 ((rd x3 (wrap64 (x8 - t138))) + 1)) < (rd x7 x8) then ((impl_Dart_score.f ((rd_T43 x85 x87).f0) ((rd_T43 x85 x87).f1)).bind fun t141 => (if 0 ≤ (wrap64 (x8 - t141)) then (if (wrap64 (x8 - t141)) < (x3.length : Int) then (fewP.l3 k x3 (x7.set (x8 : Int).toNat (wrap64 ((rd x3 (wrap64 (x8 - t141))) + 1))) x8 x78 x79 x85 x86 (wrap64 (x87 + 1))) else (none)) else (none))) else (fewP.l3 k x3 x7 x8 x78 x79 x85 x86 (wrap64 (x87 + 1)))) else (none)) else (none)))) else (none)) else (none)) else (fewP.l3 k x3 x7 x8 x78 x79 x85 x86 (wrap64 (x87 + 1))))) else (fewP.l3 k x3 x7 x8 x78 x79 x85 x86 (wrap64 (x87 + 1)))) else (none)) else (none)) else (fewP.l2 k x3 x7 x78 (wrap64 (x79 + 1)))
end
def fewP.f (k : Nat) (a0 : Bool) : Option (List Int) := if 1002 ≤ 35184372088832 then (fewP.l0 k a0 (List.replicate 1002 0) 1) else (none)
theorem fewP.mono_l : ∀ k, (∀ y0 y1 y2, LeO (fewP.l0 k y0 y1 y2) (fewP.l0 (k + 1) y0 y1 y2)) ∧ (∀ y0 y1 y2 y3 y4 y5, LeO (fewP.l1 k y0 y1 y2 y3 y4 y5) (fewP.l1 (k + 1) y0 y1 y2 y3 y4 y5)) ∧ (∀ y0 y1 y2 y3, LeO (fewP.l2 k y0 y1 y2 y3) (fewP.l2 (k + 1) y0 y1 y2 y3)) ∧ (∀ y0 y1 y2 y3 y4 y5 y6 y7, LeO (fewP.l3 k y0 y1 y2 y3 y4 y5 y6 y7) (fewP.l3 (k + 1) y0 y1 y2 y3 y4 y5 y6 y7))
 | 0 => ⟨fun _ _ _ r h => by simp [fewP.l0] at h, fun _ _ _ _ _ _ r h => by simp [fewP.l1] at h, fun _ _ _ _ r h => by simp [fewP.l2] at h, fun _ _ _ _ _ _ _ _ r h => by simp [fewP.l3] at h⟩
 | k + 1 => by
  obtain ⟨ih0, ih1, ih2, ih3⟩ := fewP.mono_l k
  refine ⟨?_, ?_, ?_, ?_⟩
  ·
   intro y0 y1 y2
   unfold fewP.l0
   repeat' first
   | (with_reducible exact ih0 _ _ _)
   | (with_reducible exact ih1 _ _ _ _ _ _)
   | (with_reducible exact ih2 _ _ _ _)
   | (with_reducible exact ih3 _ _ _ _ _ _ _ _)
   | (with_reducible exact LeO.refl _)
   | (with_reducible exact LeO.none _)
   | (with_reducible refine LeO.ite ?_ ?_)
   | (with_reducible refine LeO.bind ?_ (fun _ => ?_))
   | exact ih0 _ _ _
   | exact ih1 _ _ _ _ _ _
   | exact ih2 _ _ _ _
   | exact ih3 _ _ _ _ _ _ _ _
   | exact LeO.none _
   | refine LeO.ite ?_ ?_
   | refine LeO.bind ?_ (fun _ => ?_)
  ·
   intro y0 y1 y2 y3 y4 y5
   unfold fewP.l1
   repeat' first
   | (with_reducible exact ih0 _ _ _)
   | (with_reducible exact ih1 _ _ _ _ _ _)
   | (with_reducible exact ih2 _ _ _ _)
   | (with_reducible exact ih3 _ _ _ _ _ _ _ _)
   | (with_reducible exact LeO.refl _)
   | (with_reducible exact LeO.none _)
   | (with_reducible refine LeO.ite ?_ ?_)
   | (with_reducible refine LeO.bind ?_ (fun _ => ?_))
   | exact ih0 _ _ _
   | exact ih1 _ _ _ _ _ _
   | exact ih2 _ _ _ _
   | exact ih3 _ _ _ _ _ _ _ _
   | exact LeO.none _
   | refine LeO.ite ?_ ?_
   | refine LeO.bind ?_ (fun _ => ?_)
  ·
   intro y0 y1 y2 y3
   unfold fewP.l2
   repeat' first
   | (with_reducible exact ih0 _ _ _)
   | (with_reducible exact ih1 _ _ _ _ _ _)
   | (with_reducible exact ih2 _ _ _ _)
   | (with_reducible exact ih3 _ _ _ _ _ _ _ _)
   | (with_reducible exact LeO.refl _)
   | (with_reducible exact LeO.none _)
   | (with_reducible refine LeO.ite ?_ ?_)
   | (with_reducible refine LeO.bind ?_ (fun _ => ?_))
   | exact ih0 _ _ _
   | exact ih1 _ _ _ _ _ _
   | exact ih2 _ _ _ _
   | exact ih3 _ _ _ _ _ _ _ _
   | exact LeO.none _
   | refine LeO.ite ?_ ?_
   | refine LeO.bind ?_ (fun _ => ?_)
  ·
   intro y0 y1 y2 y3 y4 y5 y6 y7
   unfold fewP.l3
   repeat' first
   | (with_reducible exact ih0 _ _ _)
   | (with_reducible exact ih1 _ _ _ _ _ _)
   | (with_reducible exact ih2 _ _ _ _)
   | (with_reducible exact ih3 _ _ _ _ _ _ _ _)
   | (with_reducible exact LeO.refl _)
   | (with_reducible exact LeO.none _)
   | (with_reducible refine LeO.ite ?_ ?_)
   | (with_reducible refine LeO.bind ?_ (fun _ => ?_))
   | exact ih0 _ _ _
   | exact ih1 _ _ _ _ _ _
   | exact ih2 _ _ _ _
   | exact ih3 _ _ _ _ _ _ _ _
   | exact LeO.none _
   | refine LeO.ite ?_ ?_
   | refine LeO.bind ?_ (fun _ => ?_)
theorem fewP.mono : ∀ a0 k, LeO (fewP.f k a0) (fewP.f (k + 1) a0) := by
 intro a0 k
 obtain ⟨ih0, ih1, ih2, ih3⟩ := fewP.mono_l k
 unfold fewP.f
 repeat' first
   | (with_reducible exact ih0 _ _ _)
   | (with_reducible exact ih1 _ _ _ _ _ _)
   | (with_reducible exact ih2 _ _ _ _)
   | (with_reducible exact ih3 _ _ _ _ _ _ _ _)
   | (with_reducible exact LeO.refl _)
   | (with_reducible exact LeO.none _)
   | (with_reducible refine LeO.ite ?_ ?_)
   | (with_reducible refine LeO.bind ?_ (fun _ => ?_))
   | exact ih0 _ _ _
   | exact ih1 _ _ _ _ _ _
   | exact ih2 _ _ _ _
   | exact ih3 _ _ _ _ _ _ _ _
   | exact LeO.none _
   | refine LeO.ite ?_ ?_
   | refine LeO.bind ?_ (fun _ => ?_)
def fewP.T9 : Bool × List (List Nat × List Nat) := (true, [([], []), ([0], [0]), ([], []), ([1, 2], [1, 2]), ([3, 1], [3]), ([4], [4]), ([4], [4]), ([4], [4]), ([7, 4, 4], [4, 7]), ([6, 8, 4], [4, 6, 8]), ([5, 9, 4], [4, 5, 9]), ([10, 4], [4, 10]), ([11, 4], [4, 11]), ([4, 12], [4, 12]), ([13, 8], [13]), ([14], [14]), ([14], [14]), ([15, 16, 14], [14, 15, 16]), ([17, 14], [14, 17]), ([18, 14], [14, 18]), ([19, 14, 14], [14, 19]), ([20], [20]), ([20], [20]), ([20], [20]), ([23, 20, 20], [20, 23]), ([22, 24, 20], [20, 22, 24]), ([21, 25, 20], [20, 21, 25]), ([26, 20], [20, 26]), ([27, 20], [20, 27]), ([20], [20]), ([20], [20]), ([29, 30, 20], [20, 29, 30]), ([31, 20], [20, 31]), ([28, 32, 20], [20, 28, 32]), ([20, 33, 14], [14, 20, 33]), ([14, 34], [14, 34])])
def fewP.B9 : List Nat := [0, 1, 0, 7, 15, 31, 31, 31, 159, 479, 1023, 2047, 4095, 8191, 16383, 32767, 32767, 131071, 262143, 524287, 1048575, 2097151, 2097151, 2097151, 10485759, 31457279, 67108863, 134217727, 268435455, 2097151, 2097151, 1612709887, 3760193535, 8589934591, 17179869183, 34359738367]
theorem fewP.tab9 : rtab .any (opsOf Try.f34 9) = fewP.T9 := by kernel_rfl
theorem fewP.bits9 : waitsOk fewP.T9.2 fewP.B9 = true := by kernel_rfl
def fewP.T22 : Bool × List (List Nat × List Nat) := (true, [([], []), ([0], [0]), ([1], [1]), ([2], [2]), ([3], [3]), ([4, 3, 3], [3, 4]), ([3], [3]), ([5, 6, 3], [3, 5, 6]), ([3, 7], [3, 7]), ([8, 5], [8]), ([9], [9]), ([9], [9]), ([10, 11, 9], [9, 10, 11]), ([12, 9], [9, 12]), ([13, 9], [9, 13]), ([14, 9, 9], [9, 14]), ([15], [15]), ([15], [15]), ([15], [15]), ([18, 15, 15], [15, 18]), ([17, 19, 15], [15, 17, 19]), ([16, 20, 15], [15, 16, 20]), ([21, 15], [15, 21]), ([22, 15], [15, 22]), ([15], [15]), ([15], [15]), ([24, 25, 15], [15, 24, 25]), ([26, 15], [15, 26]), ([23, 27, 15], [15, 23, 27]), ([15, 28, 9], [9, 15, 28]), ([9, 29], [9, 29])])
def fewP.B22 : List Nat := [0, 1, 3, 7, 15, 31, 15, 127, 255, 511, 1023, 1023, 4095, 8191, 16383, 32767, 65535, 65535, 65535, 327679, 983039, 2097151, 4194303, 8388607, 65535, 65535, 50397183, 117506047, 268435455, 536870911, 1073741823]
theorem fewP.tab22 : rtab .any (opsOf Try.f34 22) = fewP.T22 := by kernel_rfl
theorem fewP.bits22 : waitsOk fewP.T22.2 fewP.B22 = true := by kernel_rfl
def piece34 : List Nat → Code → Code
 | 0::r, .seq a _ => piece34 r a
 | 1::r, .seq _ b => piece34 r b
 | 2::r, .cond _ a _ => piece34 r a
 | 3::r, .cond _ _ b => piece34 r b
 | 4::r, .block _ a => piece34 r a
 | 4::r, .loop a => piece34 r a
 | 4::r, .scope a => piece34 r a
 | _, c => c
set_option maxHeartbeats 8000000 in
set_option maxRecDepth 1000000 in
theorem few2 (r x3_1 : List Int) (k1 : Nat) (aA : Value) (w : World) (aB fF aC aD aE aF aG aH aI aJ aK aL aM aN aO aP aQ aR aS aT aU aV aX aY aZ bA bB bC bD bE bF bG bH bI bJ bK bL bM bN bO bP bQ bR bS bT bU bV bX bY bZ cA cB cC cD cE cF cG cH cI cJ cK cL cM cN cO cP cQ cR cS cT cU cV fJ fG cW cX cY cZ dA dB dC dD dE dF dG dH dI dJ dK dL dM dN dO dP dQ dR dS dT dU dV dW dX dY dZ eA eB eC eD eE eF eG eH eI eJ eK eL eM eN eP eQ eR eS eT eU eV eW eX eY eZ fA fB fC fD fE : Value) (wc : World)
  (HO0 : Kd.R (Kd.int .i64) 3 wc w.heap.size (fun _ => True) aA x3_1) (HB0 : Below w.heap.size w wc) (H : (if 1002 ≤ 35184372088832 then ((some (List.replicate 1002 0 : List Int)).bind fun y124 => (fewP.l2 k1 x3_1 y124 (y124.length : Int) 0)) else (none)) = some r) :
  (piece34 [1, 1, 1, 1] (Try.f34.body.getD .skip)).wp Try.prog (bodyPost Try.prog Try.f34 (fun e w' => ∃ v0_ : Value, e = .returned (v0_) ∧ Kd.R (Kd.int .i64) 3 w' w.heap.size (fun _ => True) v0_ r ∧ Below w.heap.size w w')) ⟨List.toArray (.bool true::aB::fF::aA::aC::aD::aE::aF::aG::aH::aI::aJ::aK::aL::aM::aN::aO::aP::aQ::aR::aS::aT::aU::aV::aX::aY::aZ::bA::bB::bC::bD::bE::bF::bG::bH::bI::bJ::bK::bL::bM::bN::bO::bP::bQ::bR::bS::bT::bU::bV::bX::bY::bZ::cA::cB::cC::cD::cE::cF::cG::cH::cI::cJ::cK::cL::cM::cN::cO::cP::cQ::cR::cS::cT::cU::cV::fJ::fG::cW::cX::cY::cZ::dA::dB::dC::dD::dE::dF::dG::dH::dI::dJ::dK::dL::dM::dN::dO::dP::dQ::dR::dS::dT::dU::dV::dW::dX::dY::dZ::eA::eB::eC::eD::eE::eF::eG::eH::eI::eJ::eK::eL::eM::eN::eP::eQ::eR::eS::eT::eU::eV::eW::eX::eY::eZ::fA::fB::fC::fD::fE::[]), []⟩ wc := by
 conv => arg 2; whnf
 have hu43 := Try.underlying43; have HO_3 := a_ HO0; have HB := a_ HB0; have HK1 := a_ (Nat.le_refl k1); clear HO0 HB0
 by_cases c82 : 1002 ≤ 35184372088832
 ·
  rw [if_pos c82] at H; have c82b0 := eq_true c82; have c82b1 : decide (1002 ≤ 35184372088832) = true := decide_eq_true c82; clear c82; obtain ⟨y124, hy124⟩ : ∃ y_ : List Int, y_ = (List.replicate 1002 0) := ⟨_, rfl⟩; replace H : (fewP.l2 k1 x3_1 y124 (y124.length : Int) 0) = some r := by first | (rw [hy124]; with_reducible exact H) | (have H2_ := (Option.bind_some _ _).symm.trans H; rw [hy124]; with_reducible exact H2_) | (have H2_ := (Option.bind_some _ _).symm.trans H; with_reducible exact H2_) | with_reducible exact H | (rw [hy124]; exact H) | exact H
  have Ny124 := a_ hy124; clear hy124; have H' := a_ H; clear H
  go_wp2_with (first | ((with_reducible refine gate_dst (N := 76) rfl ?_); refine Kd.R_make (Kd.int .i64) _ 3 rfl (N := 76) rfl 33 _ _ rfl 1002 rfl rfl Try.underlying33 (.int .i64 0) 8 info3 rfl t29_ t46_ 0 (ok := fun _ => True) (okp := fun _ => True) rfl (fun _ hk => hk) trivial t46_ t46_ (Below.refl _ _) (Nat.le_refl _) ?_; intro fO w83 ho84 hb hg_ hnew_; clear hg_ hnew_; (first | rw [← Ny124.out] at ho84 | (simp only [Int.reduceToNat] at ho84; rw [← Ny124.out] at ho84)); have n0_ := a_ (Kd.R_elder' (R_ HO_3.out) (Kd.R_base ho84) hb); have n1_ := a_ (Kd.R_lower (Kd.R_new' ho84 (Kd.R_lt (R_ HO_3.out))) (below_size (L_ HB.out (Nat.le_refl _) (Nat.le_refl _) (Nat.le_refl _)))); have n2_ := a_ (below_step (L_ HB.out (Nat.le_refl _) (Nat.le_refl _) (Nat.le_refl _)) hb); clear HO_3; clear HB; have HO_3 := n0_; have HO126 := n1_; have HB := n2_; clear n0_ n1_ n2_; clear hb ho84; obtain ⟨Ao85, co85, eo85⟩ := Kd.R_slice HO126.out; subst eo85))
  go_loopg [79] k1 (fun kq fK w' => ∃ (x7_2 : List Int) (x79_2 : Int), fK = .int .i64 x79_2 ∧ Aside0 (fewP.l2 kq x3_1 x7_2 (y124.length : Int) x79_2 = some r) ∧ Aside0 (kq ≤ k1) ∧ Aside0 (Kd.R (Kd.int .i64) 3 w' w.heap.size (fun k_ => some k_ ≠ ((.slice Ao85 y124.length co85) : Value).ownBlock) aA x3_1) ∧ Aside0 (Kd.R (Kd.int .i64) 3 w' w.heap.size (fun k_ => some k_ ≠ (aA : Value).ownBlock) (.slice Ao85 y124.length co85) x7_2) ∧ Aside0 (Below w.heap.size w w'))
  case atStart => exact ⟨(y124), (0), t2_, H', ⟨Nat.le_refl _⟩, ⟨by (with_reducible repeat (first | apply Kd.R_alloc | apply Kd.R_drewN | apply Kd.R_drew)); exact Kd.R_mono HO_3.out (fun _ hk => hk.2)⟩, ⟨by (with_reducible repeat (first | apply Kd.R_alloc | apply Kd.R_drewN | apply Kd.R_drew)); exact Kd.R_mono HO126.out (fun _ hk => hk.2)⟩, ⟨L_ HB.out (Nat.le_refl _) (Nat.le_refl _) (Nat.le_refl _)⟩⟩
  case round =>
   clear H'; obtain ⟨x7_2, x79_2, rfl, HA, HK2, HO_3, HO_7, HB⟩ := hrel; have hl7_2 := (Kd.R_reads' HO_7.out).1; rw [hl7_2] at HO_7
   (try simp only [hl7_2])
   (try simp only [hl7_2] at HO_3)
   cases gk with
   | zero => exact absurd HA.out (by simp [fewP.l2])
   | succ k2 =>
    have H := HA.out; clear HA; simp only [fewP.l2] at H
    by_cases c86 : x79_2 < (y124.length : Int)
    ·
     rw [if_pos c86] at H; have c86b0 : decide (x79_2 < (y124.length : Int)) = true := decide_eq_true c86; clear c86
     by_cases c87 : 0 ≤ x79_2
     ·
      rw [if_pos c87] at H; have c87b0 : decide (0 ≤ x79_2) = true := decide_eq_true c87; clear c87
      by_cases c88 : x79_2 < (x7_2.length : Int)
      ·
       rw [if_pos c88] at H; have c88b0 : decide (x79_2 < (x7_2.length : Int)) = true := decide_eq_true c88; clear c88; obtain ⟨y127, hy127⟩ : ∃ y_ : List Int, y_ = (x7_2.set (x79_2 : Int).toNat (-1)) := ⟨_, rfl⟩; replace H : ((impl_board.f).bind fun t128 => (fewP.l3 k2 x3_1 y127 x79_2 (y124.length : Int) x79_2 t128 (t128.length : Int) 0)) = some r := by first | (rw [hy127]; with_reducible exact H) | (have H2_ := (Option.bind_some _ _).symm.trans H; rw [hy127]; with_reducible exact H2_) | (have H2_ := (Option.bind_some _ _).symm.trans H; with_reducible exact H2_) | with_reducible exact H | (rw [hy127]; exact H) | exact H
       have Ny127 := a_ hy127; clear hy127; replace H := Option.bind_eq_some_iff.mp H; obtain ⟨t128, A900, H⟩ := H; replace H : (fewP.l3 k2 x3_1 y127 x79_2 (y124.length : Int) x79_2 t128 (t128.length : Int) 0) = some r := H; have A90 := a_ A900; clear A900; have H' := a_ H; clear H; have p89 : 0 ≤ (x79_2 : Int) := of_decide_eq_true t0_; have q89 : (x79_2 : Int) < ((x7_2.length : Int) : Int) := of_decide_eq_true t0_; obtain ⟨go89, co89, eo89, gb89, gl89, cl89, HG89⟩ := Kd.R_form HO_7.out t46_
       (first | cases eo89 | (injection eo89 with ea_ en_ ec_; (first | subst ea_ | (injection ea_ with ea_; subst ea_)); subst ec_; clear en_))
       have GB89 := a_ gb89; have GG89 := a_ HG89; clear gb89 gl89 HG89; obtain ⟨hx89_0, hf89_0⟩ := Kd.R_celln 0 HO_7.out (x79_2 : Int) p89 q89; replace p89 := eq_true p89; replace q89 := eq_true q89; have HP91 := Kd.R_putg HO_7.out (x79_2 : Int) (-1)
       go_wp2_with (first | ((with_reducible refine gate_store (t := 3) (p := 84) rfl ?_); refine store_event (t := 3) (p := 84) (v := ?vo_w92) (w1 := (wr.setCell ⟨go89, (x79_2 : Int).toNat, none⟩ (.int .i64 (-1)))) ?hg ?ho ?hn ?hr ?_; (case ho => rfl); (case hg => rfl); (case hn => rfl); (case hr => first | (go_simp; done) | (go_simp; rfl)); intro w92 hw; have hg : wr.grownBy w92 (some go89) := (by rw [hw]; exact HP91.2); have hp_ : Kd.R (Kd.int .i64) 3 w92 w.heap.size (fun k_ => some k_ ≠ (aA : Value).ownBlock) (.slice (some ⟨go89, 0, none⟩) x7_2.length co85) y127 := (by rw [hw, Ny127.out]; exact HP91.1); clear HP91; have n0_ := a_ (Kd.R_after (v := (.slice (some ⟨go89, 0, none⟩) x7_2.length co85)) (v1 := (.slice (some ⟨go89, 0, none⟩) x7_2.length co85)) (ok := (fun _ => True)) t44_ hg (.inl rfl)); have n1_ := a_ (hp_); have n2_ := a_ ((by rw [hw]; exact below_set (HB.out) GB89.out : Below w.heap.size w w92)); clear HO_3; clear HO_7; clear HB; have HO_3 := n0_; have HO_7 := n1_; have HB := n2_; clear n0_ n1_ n2_; clear hg hw hp_) | ((with_reducible refine gate_callee (f := 35) rfl ?_); refine goesL_ (some 85) rfl rfl Try.func35 t1_ rfl #[] rfl t28_ ?_; (with_reducible refine (impl_board.calls  t128 _ A90.out).mono ?_); rintro e w93 ⟨fP, rfl, ho0, hb⟩; refine ⟨_, rfl, ?_⟩; have n0_ := a_ (Kd.R_below (R_ HO_3.out) hb); have n1_ := a_ (Kd.R_below (R_ HO_7.out) hb); have n2_ := a_ (Kd.R_lower ho0 (below_size (L_ HB.out (Nat.le_refl _) (Nat.le_refl _) (Nat.le_refl _)))); have n3_ := a_ (below_step (L_ HB.out (Nat.le_refl _) (Nat.le_refl _) (Nat.le_refl _)) hb); clear HO_3; clear HO_7; clear HB; have HO_3 := n0_; have HO_7 := n1_; have HO130 := n2_; have HB := n3_; clear n0_ n1_ n2_ n3_; (try clear hb); (try clear hb2); (try clear hk); (try clear hi); (try clear ho0); obtain ⟨Ao94, co94, eo94⟩ := Kd.R_slice HO130.out; subst eo94))
       go_loopg [87] k2 (fun kq fL w' => ∃ (x7_3 : List Int) (x87_3 : Int), fL = .int .i64 x87_3 ∧ Aside0 (fewP.l3 kq x3_1 x7_3 x79_2 (y124.length : Int) x79_2 t128 (t128.length : Int) x87_3 = some r) ∧ Aside0 (kq ≤ k2) ∧ Aside0 (Kd.R (Kd.int .i64) 3 w' w.heap.size (fun k_ => some k_ ≠ ((.slice (some ⟨go89, 0, none⟩) x7_2.length co85) : Value).ownBlock) aA x3_1) ∧ Aside0 (Kd.R (Kd.int .i64) 3 w' w.heap.size (fun k_ => some k_ ≠ (aA : Value).ownBlock) (.slice (some ⟨go89, 0, none⟩) x7_2.length co85) x7_3) ∧ Aside0 (Kd.R k43 43 w' w.heap.size (fun _ => True) (.slice Ao94 t128.length co94) t128) ∧ Aside0 (Below w.heap.size w w'))
       case atStart => exact ⟨(y127), (0), t2_, H', ⟨Nat.le_refl _⟩, ⟨by (try simp only [hl7_2]); (with_reducible repeat (first | apply Kd.R_alloc | apply Kd.R_drewN | apply Kd.R_drew)); exact Kd.R_mono HO_3.out (fun _ hk => hk.2)⟩, ⟨by (try simp only [hl7_2]); (with_reducible repeat (first | apply Kd.R_alloc | apply Kd.R_drewN | apply Kd.R_drew)); exact HO_7.out⟩, ⟨by (try simp only [hl7_2]); (with_reducible repeat (first | apply Kd.R_alloc | apply Kd.R_drewN | apply Kd.R_drew)); exact HO130.out⟩, ⟨L_ HB.out (Nat.le_refl _) (Nat.le_refl _) (Nat.le_refl _)⟩⟩
       case round =>
        clear H'; obtain ⟨x7_3, x87_3, rfl, HA, HK3, HO_3, HO_7, HO_85, HB⟩ := hrel; have hl7_3 := (Kd.R_reads' HO_7.out).1; rw [hl7_3] at HO_7
        (try simp only [hl7_3])
        (try simp only [hl7_3] at HO_3)
        (try simp only [hl7_3] at HO_85)
        cases gk with
        | zero => exact absurd HA.out (by simp [fewP.l3])
        | succ k3 =>
         have H := HA.out; clear HA; simp only [fewP.l3] at H
         by_cases c95 : x87_3 < (t128.length : Int)
         ·
          rw [if_pos c95] at H; have c95b0 : decide (x87_3 < (t128.length : Int)) = true := decide_eq_true c95; clear c95
          by_cases c96 : 0 ≤ x87_3
          ·
           rw [if_pos c96] at H; have c96b0 : decide (0 ≤ x87_3) = true := decide_eq_true c96; clear c96
           by_cases c97 : x87_3 < (t128.length : Int)
           ·
            rw [if_pos c97] at H; have c97b0 : decide (x87_3 < (t128.length : Int)) = true := decide_eq_true c97; clear c97
            by_cases c98 : ((rd_T43 t128 x87_3).f1) = 2
            ·
             rw [if_pos c98] at H; have c98b0 : (((rd_T43 t128 x87_3).f1) == 2) = true := beq_iff_eq.mpr c98; have c98b1 : (((rd_T43 t128 x87_3).f1) != 2) = false := bne_eq_false_iff_eq.mpr c98; clear c98; replace H := Option.bind_eq_some_iff.mp H; obtain ⟨t133, A990, H⟩ := H; replace H : (if t133 ≤ x79_2 then (if 0 ≤ x79_2 then (if x79_2 < (x7_3.length : Int) then (if (rd x7_3 x79_2) < 0 then ((impl_Dart_score.f ((rd_T43 t128 x87_3).f0) ((rd_T43 t128 x87_3).f1)).bind fun t135 => (if 0 ≤ (wrap64 (x79_2 - t135)) then (if (wrap64 (x79_2 - t135)) < (x3_1.length : Int) then (fewP.l3 k3 x3_1 (x7_3.set (x79_2 : Int).toNat (wrap64 ((rd x3_1 (wrap64 (x79_2 - t135))) + 1))) x79_2 (y124.length : Int) x79_2 t128 (t128.length : Int) (wrap64 (x87_3 + 1))) else (none)) else (none))) else ((impl_Dart_score.f ((rd_T43 t128 x87_3).f0) ((rd_T43 t128 x87_3).f1)).bind fun t138 => (if 0 ≤ (wrap64 (x79_2 - t138)) then (if (wrap64 (x79_2 - t138)) < (x3_1.length : Int) then (if (wrap64 ((rd x3_1 (wrap64 (x79_2 - t138))) + 1)) < (rd x7_3 x79_2) then ((impl_Dart_score.f ((rd_T43 t128 x87_3).f0) ((rd_T43 t128 x87_3).f1)).bind fun t141 => (if 0 ≤ (wrap64 (x79_2 - t141)) then (if (wrap64 (x79_2 - t141)) < (x3_1.length : Int) then (fewP.l3 k3 x3_1 (x7_3.set (x79_2 : Int).toNat (wrap64 ((rd x3_1 (wrap64 (x79_2 - t141))) + 1))) x79_2 (y124.length : Int) x79_2 t128 (t128.length : Int) (wrap64 (x87_3 + 1))) else (none)) else (none))) else (fewP.l3 k3 x3_1 x7_3 x79_2 (y124.length : Int) x79_2 t128 (t128.length : Int) (wrap64 (x87_3 + 1)))) else (none)) else (none)))) else (none)) else (none)) else (fewP.l3 k3 x3_1 x7_3 x79_2 (y124.length : Int) x79_2 t128 (t128.length : Int) (wrap64 (x87_3 + 1)))) = some r := H; have A99 := a_ A990; clear A990
             by_cases c100 : t133 ≤ x79_2
             ·
              rw [if_pos c100] at H; have c100b0 : decide (t133 ≤ x79_2) = true := decide_eq_true c100; clear c100
              by_cases c101 : 0 ≤ x79_2
              ·
               rw [if_pos c101] at H; have c101b0 : decide (0 ≤ x79_2) = true := decide_eq_true c101; clear c101
               by_cases c102 : x79_2 < (x7_3.length : Int)
               ·
                rw [if_pos c102] at H; have c102b0 : decide (x79_2 < (x7_3.length : Int)) = true := decide_eq_true c102; clear c102
                by_cases c103 : (rd x7_3 x79_2) < 0
                ·
                 rw [if_pos c103] at H; have c103b0 : decide ((rd x7_3 x79_2) < 0) = true := decide_eq_true c103; clear c103; replace H := Option.bind_eq_some_iff.mp H; obtain ⟨t135, A1040, H⟩ := H; replace H : (if 0 ≤ (wrap64 (x79_2 - t135)) then (if (wrap64 (x79_2 - t135)) < (x3_1.length : Int) then (fewP.l3 k3 x3_1 (x7_3.set (x79_2 : Int).toNat (wrap64 ((rd x3_1 (wrap64 (x79_2 - t135))) + 1))) x79_2 (y124.length : Int) x79_2 t128 (t128.length : Int) (wrap64 (x87_3 + 1))) else (none)) else (none)) = some r := H; have A104 := a_ A1040; clear A1040; obtain ⟨ji105, hji105⟩ : ∃ j_ : Int, (wrap64 (x79_2 - t135)) = j_ := ⟨_, rfl⟩; replace H : (if 0 ≤ (ji105) then (if (ji105) < (x3_1.length : Int) then (fewP.l3 k3 x3_1 (x7_3.set (x79_2 : Int).toNat (wrap64 ((rd x3_1 (ji105)) + 1))) x79_2 (y124.length : Int) x79_2 t128 (t128.length : Int) (wrap64 (x87_3 + 1))) else (none)) else (none)) = some r := by first | (rw [hji105] at H; exact H) | (simp only [hji105] at H ⊢; exact H)
                 (try rw [hji105] at A99)
                 (try rw [hji105] at A104)
                 have hji105w : (IntKind.i64.wrap (x79_2 - t135)) = ji105 := (i64_w _).trans hji105
                 by_cases c106 : 0 ≤ (ji105)
                 ·
                  rw [if_pos c106] at H; have c106b0 : decide (0 ≤ (ji105)) = true := decide_eq_true c106; clear c106
                  by_cases c107 : (ji105) < (x3_1.length : Int)
                  ·
                   rw [if_pos c107] at H; have c107b0 : decide ((ji105) < (x3_1.length : Int)) = true := decide_eq_true c107; clear c107; obtain ⟨y137, hy137⟩ : ∃ y_ : List Int, y_ = (x7_3.set (x79_2 : Int).toNat (wrap64 ((rd x3_1 (ji105)) + 1))) := ⟨_, rfl⟩; replace H : (fewP.l3 k3 x3_1 y137 x79_2 (y124.length : Int) x79_2 t128 (t128.length : Int) (wrap64 (x87_3 + 1))) = some r := by first | (rw [hy137]; with_reducible exact H) | (have H2_ := (Option.bind_some _ _).symm.trans H; rw [hy137]; with_reducible exact H2_) | (have H2_ := (Option.bind_some _ _).symm.trans H; with_reducible exact H2_) | with_reducible exact H | (rw [hy137]; exact H) | exact H
                   have Ny137 := a_ hy137; clear hy137; have H' := a_ H; clear H; have p131 : 0 ≤ (x87_3 : Int) := of_decide_eq_true t0_; have q131 : x87_3 < (t128.length : Int) := of_decide_eq_true t0_; obtain ⟨ad131, e131, hx131_0, hx131_1⟩ := at_T43 (Kd.R_reads' HO_85.out).2.2 x87_3 p131 q131
                   cases e131
                   replace p131 := eq_true p131; replace q131 := eq_true q131
                   try go_wp2_with (first | ((with_reducible refine gate_dst (N := 10) rfl ?_); refine box_event ?hg (N := 10) ?hd (cs := #[.int .i64 0, .int .i64 0]) (t := 43) ?hr ?_; (case hd => rfl); (case hg => rfl); (case hr => first | (go_simp; done) | (go_simp; rfl)); intro gb132 hg w109 hbox hb; have n0_ := a_ (Kd.R_below (R_ HO_3.out) hb); have n1_ := a_ (Kd.R_below (R_ HO_7.out) hb); have n2_ := a_ (Kd.R_below (Kd.R_elderB (R_ HO_85.out) gb132 (Nat.le_of_eq hg.symm)) hb); have n3_ := a_ (below_step (L_ HB.out (Nat.le_refl _) (Nat.le_refl _) (Nat.le_refl _)) hb); have n4_ := a_ (hbox); have n5_ := a_ ((by rw [hg]; exact (below_size (L_ HB.out (Nat.le_refl _) (Nat.le_refl _) (Nat.le_refl _))) : w.heap.size ≤ gb132)); have n6_ := a_ ((by rw [hg]; exact (below_size (L_ HB.out (Nat.le_refl _) (Nat.le_refl _) (Nat.le_refl _))) : w.heap.size ≤ gb132)); clear HO_3; clear HO_7; clear HO_85; clear HB; have HO_3 := n0_; have HO_7 := n1_; have HO_85 := n2_; have HB := n3_; have BK132 := n4_; have GW132 := n5_; have GE132 := n6_; clear n0_ n1_ n2_ n3_ n4_ n5_ n6_; clear hb hbox hg; have hcz110_0 : w109.cell? ⟨gb132, 0, none⟩ = some (.int .i64 0) := c_ BK132.out 0; have hcz110_1 : w109.cell? ⟨gb132, 1, none⟩ = some (.int .i64 0) := c_ BK132.out 1; have hfz110_0 := blk_frozen BK132.out 0; have hfz110_1 := blk_frozen BK132.out 1))
                   have n0_ : Aside0 (Kd.R (Kd.int .i64) 3 ((w109.setCell ⟨gb132, 0, none⟩ (.int .i64 ((rd_T43 t128 x87_3).f0))).setCell ⟨gb132, 1, none⟩ (.int .i64 ((rd_T43 t128 x87_3).f1))) w.heap.size (fun k_ => some k_ ≠ (.slice (some ⟨go89, 0, none⟩) x7_3.length co85 : Value).ownBlock) aA x3_1) := ⟨t13_⟩; have n1_ : Aside0 (Kd.R (Kd.int .i64) 3 ((w109.setCell ⟨gb132, 0, none⟩ (.int .i64 ((rd_T43 t128 x87_3).f0))).setCell ⟨gb132, 1, none⟩ (.int .i64 ((rd_T43 t128 x87_3).f1))) w.heap.size (fun k_ => some k_ ≠ (aA : Value).ownBlock) (.slice (some ⟨go89, 0, none⟩) x7_3.length co85) x7_3) := ⟨t14_⟩; have n2_ : Aside0 (Kd.R k43 43 ((w109.setCell ⟨gb132, 0, none⟩ (.int .i64 ((rd_T43 t128 x87_3).f0))).setCell ⟨gb132, 1, none⟩ (.int .i64 ((rd_T43 t128 x87_3).f1))) w.heap.size (fun k_ => k_ ≠ gb132) (.slice (some ad131) t128.length co94) t128) := ⟨t8_⟩; have n3_ : Aside0 (((w109.setCell ⟨gb132, 0, none⟩ (.int .i64 ((rd_T43 t128 x87_3).f0))).setCell ⟨gb132, 1, none⟩ (.int .i64 ((rd_T43 t128 x87_3).f1))).heap[gb132]? = some (.cells #[.int .i64 ((rd_T43 t128 x87_3).f0), .int .i64 ((rd_T43 t128 x87_3).f1)] 43 (0, 0))) := ⟨t10_⟩; have n4_ : Aside0 (Below w.heap.size w ((w109.setCell ⟨gb132, 0, none⟩ (.int .i64 ((rd_T43 t128 x87_3).f0))).setCell ⟨gb132, 1, none⟩ (.int .i64 ((rd_T43 t128 x87_3).f1)))) := ⟨L_ HB.out GE132.out GE132.out GE132.out⟩
                   (try clear HO_3)
                   (try clear HO_7)
                   (try clear HO_85)
                   (try clear BK132)
                   (try clear HB)
                   generalize ((w109.setCell ⟨gb132, 0, none⟩ (.int .i64 ((rd_T43 t128 x87_3).f0))).setCell ⟨gb132, 1, none⟩ (.int .i64 ((rd_T43 t128 x87_3).f1))) = w111 at n0_ n1_ n2_ n3_ n4_ ⊢; have HO_3 := n0_; have HO_7 := n1_; have HO_85 := n2_; have BK132 := n3_; have HB := n4_; clear n0_ n1_ n2_ n3_ n4_; have n0_ := a_ (Kd.R_drew HO_3.out); have n1_ := a_ (Kd.R_drew HO_7.out); have n2_ := a_ (Kd.R_drew HO_85.out); have n3_ := a_ (blk_drew BK132.out); have n4_ := a_ (below_drew1 HB.out); clear HO_3; clear HO_7; clear HO_85; clear BK132; clear HB; have HO_3 := n0_; have HO_7 := n1_; have HO_85 := n2_; have BK132 := n3_; have HB := n4_; clear n0_ n1_ n2_ n3_ n4_; have p134 : 0 ≤ (x79_2 : Int) := of_decide_eq_true t0_; have q134 : x79_2 < (x7_3.length : Int) := of_decide_eq_true t0_; obtain ⟨ad134, e134, hx134_0⟩ := Kd.at_int (Kd.R_reads' HO_7.out).2.2 x79_2 p134 q134; obtain rfl : (⟨go89, 0, none⟩ : Addr) = ad134 := (by injection e134)
                   (first | simp only [add_plain] at hx134_0 | simp only [add_at] at hx134_0 | simp only [Addr.add, Nat.zero_add] at hx134_0 | skip)
                   replace p134 := eq_true p134; replace q134 := eq_true q134
                   refine start_ (n := 31) (S := fun w' => w'.cell? ⟨gb132, 0, none⟩ = some (.int .i64 ((rd_T43 t128 x87_3).f0)) ∧ w'.cell? ⟨gb132, 1, none⟩ = some (.int .i64 ((rd_T43 t128 x87_3).f1)) ∧ w'.cell? ⟨go89, (x79_2).toNat, none⟩ = some (.int .i64 (rd x7_3 x79_2))) (ds := []) #[false, false, false, false, false, false, false, false, false, false, false, false, false, false, false, false, false, false, false, false, false, false, false, false, false, false, false, false, false, false, false] t1_ rfl rfl ⟨c_ BK132.out 0, c_ BK132.out 1, hx134_0⟩ (fun hHeld => ?_); refine with_tabW fewP.tab22 fewP.bits22 (fun HT_ HW_ => ?_)
                   generalize w111.drew = w112 at HO_3 HO_7 HO_85 BK132 HB hx134_0 hHeld ⊢
                   refine pure_ (i := 0) (N := some 91) (v := ?_) (a' := ?_) #[true, false, false, false, false, false, false, false, false, false, false, false, false, false, false, false, false, false, false, false, false, false, false, false, false, false, false, false, false, false, false] rfl rfl (any_of HT_.out t1_) (fun _ _ _ h => h) (Or.inl ⟨by rfl, ?_⟩) ?_ ?_
                   rotate_left
                   ·
                    intro w'
                    go_simp
                    with_reducible rfl
                   rotate_left
                   ·
                    simp only [Act.put, List.setIfInBounds_toArray, List.set_cons_zero, List.set_cons_succ, i64_w, i32_w]
                    rfl
                   refine take_ (i := 1) (N := some 92) (v := ?_) (a' := ?_) #[true, true, false, false, false, false, false, false, false, false, false, false, false, false, false, false, false, false, false, false, false, false, false, false, false, false, false, false, false, false, false] rfl rfl (take_ofW HT_.out HW_.out t1_) (fun _ _ _ h => h) (Or.inl ⟨by rfl, ?_⟩) hHeld ?_ ?_
                   rotate_left
                   ·
                    rintro w' ⟨s0, s1, s2⟩
                    go_simp
                    with_reducible rfl
                   rotate_left
                   ·
                    simp only [Act.put, List.setIfInBounds_toArray, List.set_cons_zero, List.set_cons_succ, i64_w, i32_w]
                    rfl
                   refine pure_ (i := 2) (N := some 93) (v := ?_) (a' := ?_) #[true, true, true, false, false, false, false, false, false, false, false, false, false, false, false, false, false, false, false, false, false, false, false, false, false, false, false, false, false, false, false] rfl rfl (any_of HT_.out t1_) (fun _ _ _ h => h) (Or.inl ⟨by rfl, ?_⟩) ?_ ?_
                   rotate_left
                   ·
                    intro w'
                    go_simp
                    with_reducible rfl
                   rotate_left
                   ·
                    simp only [Act.put, List.setIfInBounds_toArray, List.set_cons_zero, List.set_cons_succ, i64_w, i32_w]
                    rfl
                   refine pure_ (i := 3) (N := some 94) (v := ?_) (a' := ?_) #[true, true, true, true, false, false, false, false, false, false, false, false, false, false, false, false, false, false, false, false, false, false, false, false, false, false, false, false, false, false, false] rfl rfl (any_of HT_.out t1_) (fun _ _ _ h => h) (Or.inl ⟨by rfl, ?_⟩) ?_ ?_
                   rotate_left
                   ·
                    intro w'
                    go_simp
                    with_reducible rfl
                   rotate_left
                   ·
                    simp only [Act.put, List.setIfInBounds_toArray, List.set_cons_zero, List.set_cons_succ, i64_w, i32_w]
                    rfl
                   refine pure_ (i := 6) (N := some 97) (v := ?_) (a' := ?_) #[true, true, true, true, false, false, true, false, false, false, false, false, false, false, false, false, false, false, false, false, false, false, false, false, false, false, false, false, false, false, false] rfl rfl (any_of HT_.out t1_) (fun _ _ _ h => h) (Or.inl ⟨by rfl, ?_⟩) ?_ ?_
                   rotate_left
                   ·
                    intro w'
                    go_simp
                    with_reducible rfl
                   rotate_left
                   ·
                    simp only [Act.put, List.setIfInBounds_toArray, List.set_cons_zero, List.set_cons_succ, i64_w, i32_w]
                    rfl
                   refine take_ (i := 4) (N := some 95) (v := ?_) (a' := ?_) #[true, true, true, true, true, false, true, false, false, false, false, false, false, false, false, false, false, false, false, false, false, false, false, false, false, false, false, false, false, false, false] rfl rfl (take_ofW HT_.out HW_.out t1_) (fun _ _ _ h => h) (Or.inl ⟨by rfl, ?_⟩) hHeld ?_ ?_
                   rotate_left
                   ·
                    rintro w' ⟨s0, s1, s2⟩
                    go_simp
                    with_reducible rfl
                   rotate_left
                   ·
                    simp only [Act.put, List.setIfInBounds_toArray, List.set_cons_zero, List.set_cons_succ, i64_w, i32_w]
                    rfl
                   refine one_ (i := 5) (N := some 96) #[true, true, true, true, true, true, true, false, false, false, false, false, false, false, false, false, false, false, false, false, false, false, false, false, false, false, false, false, false, false, false] rfl rfl (one_of HT_.out t1_) t29_ (fun K hK => ?_)
                   refine goes_ Try.func36 t1_ rfl #[.agg #[.int .i64 ((rd_T43 t128 x87_3).f0), .int .i64 ((rd_T43 t128 x87_3).f1)]] (by rfl) rfl rfl (by (try simp only [m1_, m2_, m3_]); first | done | rfl) ?_
                   with_reducible refine (impl_Dart_score.calls ((rd_T43 t128 x87_3).f0) ((rd_T43 t128 x87_3).f1) t133 _ A99.out).mono ?_
                   rintro e w113 ⟨rfl, hb⟩; have HS2_ := (hb.cell (World.block_lt_of_cell? _ _ (hHeld.2.2))).trans (hHeld.2.2)
                   refine ⟨_, rfl, ?_⟩
                   have n0_ := a_ (Kd.R_below (R_ HO_3.out) hb); have n1_ := a_ (Kd.R_below (R_ HO_7.out) hb); have n2_ := a_ (Kd.R_below (R_ HO_85.out) hb); have n3_ := bb_ BK132 hb; have n4_ := a_ (below_step (L_ HB.out GE132.out GE132.out GE132.out) hb); clear HO_3; clear HO_7; clear HO_85; clear BK132; clear HB; have HO_3 := n0_; have HO_7 := n1_; have HO_85 := n2_; have BK132 := n3_; have HB := n4_; clear n0_ n1_ n2_ n3_ n4_
                   (try clear hb)
                   (try clear hb2)
                   (try clear hk)
                   (try clear hi)
                   refine hK.out _ _ ⟨c_ BK132.out 0, c_ BK132.out 1, HS2_⟩ (fun hHeld => ?_)
                   clear hK K
                   refine norm_ (a' := ?_) ?_ ?_
                   rotate_left
                   ·
                    show Act.put _ (some 96) _ = _
                    simp only [Act.put, List.setIfInBounds_toArray, List.set_cons_zero, List.set_cons_succ, i64_w, i32_w]
                    rfl
                   refine pure_ (i := 7) (N := some 98) (v := ?_) (a' := ?_) #[true, true, true, true, true, true, true, true, false, false, false, false, false, false, false, false, false, false, false, false, false, false, false, false, false, false, false, false, false, false, false] rfl rfl (any_of HT_.out t1_) (fun _ _ _ h => h) (Or.inl ⟨by rfl, ?_⟩) ?_ ?_
                   rotate_left
                   ·
                    intro w'
                    go_simp
                    with_reducible rfl
                   rotate_left
                   ·
                    simp only [Act.put, List.setIfInBounds_toArray, List.set_cons_zero, List.set_cons_succ, i64_w, i32_w]
                    rfl
                   refine pure_ (i := 8) (N := some 99) (v := ?_) (a' := ?_) #[true, true, true, true, true, true, true, true, true, false, false, false, false, false, false, false, false, false, false, false, false, false, false, false, false, false, false, false, false, false, false] rfl rfl (any_of HT_.out t1_) (fun _ _ _ h => h) (Or.inl ⟨by rfl, ?_⟩) ?_ ?_
                   rotate_left
                   ·
                    intro w'
                    go_simp
                    with_reducible rfl
                   rotate_left
                   ·
                    simp only [Act.put, List.setIfInBounds_toArray, List.set_cons_zero, List.set_cons_succ, i64_w, i32_w]
                    rfl
                   refine pure_ (i := 9) (N := some 100) (v := ?_) (a' := ?_) #[true, true, true, true, true, true, true, true, true, true, false, false, false, false, false, false, false, false, false, false, false, false, false, false, false, false, false, false, false, false, false] rfl rfl (any_of HT_.out t1_) (fun _ _ _ h => h) (Or.inl ⟨by rfl, ?_⟩) ?_ ?_
                   rotate_left
                   ·
                    intro w'
                    go_simp
                    with_reducible rfl
                   rotate_left
                   ·
                    simp only [Act.put, List.setIfInBounds_toArray, List.set_cons_zero, List.set_cons_succ, i64_w, i32_w]
                    rfl
                   refine pure_ (i := 10) (N := some 101) (v := ?_) (a' := ?_) #[true, true, true, true, true, true, true, true, true, true, true, false, false, false, false, false, false, false, false, false, false, false, false, false, false, false, false, false, false, false, false] rfl rfl (any_of HT_.out t1_) (fun _ _ _ h => h) (Or.inl ⟨by rfl, ?_⟩) ?_ ?_
                   rotate_left
                   ·
                    intro w'
                    go_simp
                    with_reducible rfl
                   rotate_left
                   ·
                    simp only [Act.put, List.setIfInBounds_toArray, List.set_cons_zero, List.set_cons_succ, i64_w, i32_w]
                    rfl
                   refine pure_ (i := 11) (N := some 102) (v := ?_) (a' := ?_) #[true, true, true, true, true, true, true, true, true, true, true, true, false, false, false, false, false, false, false, false, false, false, false, false, false, false, false, false, false, false, false] rfl rfl (any_of HT_.out t1_) (fun _ _ _ h => h) (Or.inl ⟨by rfl, ?_⟩) ?_ ?_
                   rotate_left
                   ·
                    intro w'
                    go_simp
                    with_reducible rfl
                   rotate_left
                   ·
                    simp only [Act.put, List.setIfInBounds_toArray, List.set_cons_zero, List.set_cons_succ, i64_w, i32_w]
                    rfl
                   refine pure_ (i := 12) (N := some 103) (v := ?_) (a' := ?_) #[true, true, true, true, true, true, true, true, true, true, true, true, true, false, false, false, false, false, false, false, false, false, false, false, false, false, false, false, false, false, false] rfl rfl (any_of HT_.out t1_) (fun _ _ _ h => h) (Or.inl ⟨by rfl, ?_⟩) ?_ ?_
                   rotate_left
                   ·
                    intro w'
                    go_simp
                    with_reducible rfl
                   rotate_left
                   ·
                    simp only [Act.put, List.setIfInBounds_toArray, List.set_cons_zero, List.set_cons_succ, i64_w, i32_w]
                    rfl
                   refine take_ (i := 13) (N := some 104) (v := ?_) (a' := ?_) #[true, true, true, true, true, true, true, true, true, true, true, true, true, true, false, false, false, false, false, false, false, false, false, false, false, false, false, false, false, false, false] rfl rfl (take_ofW HT_.out HW_.out t1_) (fun _ _ _ h => h) (Or.inl ⟨by rfl, ?_⟩) hHeld ?_ ?_
                   rotate_left
                   ·
                    rintro w' ⟨s0, s1, s2⟩
                    go_simp
                    with_reducible rfl
                   rotate_left
                   ·
                    simp only [Act.put, List.setIfInBounds_toArray, List.set_cons_zero, List.set_cons_succ, i64_w, i32_w]
                    rfl
                   refine pure_ (i := 14) (N := some 105) (v := ?_) (a' := ?_) #[true, true, true, true, true, true, true, true, true, true, true, true, true, true, true, false, false, false, false, false, false, false, false, false, false, false, false, false, false, false, false] rfl rfl (any_of HT_.out t1_) (fun _ _ _ h => h) (Or.inl ⟨by rfl, ?_⟩) ?_ ?_
                   rotate_left
                   ·
                    intro w'
                    go_simp
                    with_reducible rfl
                   rotate_left
                   ·
                    simp only [Act.put, List.setIfInBounds_toArray, List.set_cons_zero, List.set_cons_succ, i64_w, i32_w]
                    rfl
                   refine pure_ (i := 15) (N := some 106) (v := ?_) (a' := ?_) #[true, true, true, true, true, true, true, true, true, true, true, true, true, true, true, true, false, false, false, false, false, false, false, false, false, false, false, false, false, false, false] rfl rfl (any_of HT_.out t1_) (fun _ _ _ h => h) (Or.inl ⟨by rfl, ?_⟩) ?_ ?_
                   rotate_left
                   ·
                    intro w'
                    go_simp
                    with_reducible rfl
                   rotate_left
                   ·
                    simp only [Act.put, List.setIfInBounds_toArray, List.set_cons_zero, List.set_cons_succ, i64_w, i32_w]
                    rfl
                   refine pure_ (i := 16) (N := some 107) (v := undef) (a' := ?_) #[true, true, true, true, true, true, true, true, true, true, true, true, true, true, true, true, true, false, false, false, false, false, false, false, false, false, false, false, false, false, false] rfl rfl (any_of HT_.out t1_) (fun _ _ _ h => h) (Or.inr ⟨by rfl, rfl⟩) ?_ ?_
                   rotate_left
                   ·
                    simp only [Act.put, List.setIfInBounds_toArray, List.set_cons_zero, List.set_cons_succ, i64_w, i32_w]
                    rfl
                   refine pure_ (i := 17) (N := some 108) (v := undef) (a' := ?_) #[true, true, true, true, true, true, true, true, true, true, true, true, true, true, true, true, true, true, false, false, false, false, false, false, false, false, false, false, false, false, false] rfl rfl (any_of HT_.out t1_) (fun _ _ _ h => h) (Or.inr ⟨by rfl, rfl⟩) ?_ ?_
                   rotate_left
                   ·
                    simp only [Act.put, List.setIfInBounds_toArray, List.set_cons_zero, List.set_cons_succ, i64_w, i32_w]
                    rfl
                   refine pure_ (i := 18) (N := some 109) (v := undef) (a' := ?_) #[true, true, true, true, true, true, true, true, true, true, true, true, true, true, true, true, true, true, true, false, false, false, false, false, false, false, false, false, false, false, false] rfl rfl (any_of HT_.out t1_) (fun _ _ _ h => h) (Or.inr ⟨by rfl, rfl⟩) ?_ ?_
                   rotate_left
                   ·
                    simp only [Act.put, List.setIfInBounds_toArray, List.set_cons_zero, List.set_cons_succ, i64_w, i32_w]
                    rfl
                   refine pure_ (i := 19) (N := some 110) (v := undef) (a' := ?_) #[true, true, true, true, true, true, true, true, true, true, true, true, true, true, true, true, true, true, true, true, false, false, false, false, false, false, false, false, false, false, false] rfl rfl (any_of HT_.out t1_) (fun _ _ _ h => h) (Or.inr ⟨by rfl, rfl⟩) ?_ ?_
                   rotate_left
                   ·
                    simp only [Act.put, List.setIfInBounds_toArray, List.set_cons_zero, List.set_cons_succ, i64_w, i32_w]
                    rfl
                   refine pure_ (i := 20) (N := some 111) (v := undef) (a' := ?_) #[true, true, true, true, true, true, true, true, true, true, true, true, true, true, true, true, true, true, true, true, true, false, false, false, false, false, false, false, false, false, false] rfl rfl (any_of HT_.out t1_) (fun _ _ _ h => h) (Or.inr ⟨by rfl, rfl⟩) ?_ ?_
                   rotate_left
                   ·
                    simp only [Act.put, List.setIfInBounds_toArray, List.set_cons_zero, List.set_cons_succ, i64_w, i32_w]
                    rfl
                   refine pure_ (i := 21) (N := some 112) (v := undef) (a' := ?_) #[true, true, true, true, true, true, true, true, true, true, true, true, true, true, true, true, true, true, true, true, true, true, false, false, false, false, false, false, false, false, false] rfl rfl (any_of HT_.out t1_) (fun _ _ _ h => h) (Or.inr ⟨by rfl, rfl⟩) ?_ ?_
                   rotate_left
                   ·
                    simp only [Act.put, List.setIfInBounds_toArray, List.set_cons_zero, List.set_cons_succ, i64_w, i32_w]
                    rfl
                   refine pure_ (i := 22) (N := some 113) (v := undef) (a' := ?_) #[true, true, true, true, true, true, true, true, true, true, true, true, true, true, true, true, true, true, true, true, true, true, true, false, false, false, false, false, false, false, false] rfl rfl (any_of HT_.out t1_) (fun _ _ _ h => h) (Or.inr ⟨by rfl, rfl⟩) ?_ ?_
                   rotate_left
                   ·
                    simp only [Act.put, List.setIfInBounds_toArray, List.set_cons_zero, List.set_cons_succ, i64_w, i32_w]
                    rfl
                   refine pure_ (i := 23) (N := some 114) (v := undef) (a' := ?_) #[true, true, true, true, true, true, true, true, true, true, true, true, true, true, true, true, true, true, true, true, true, true, true, true, false, false, false, false, false, false, false] rfl rfl (any_of HT_.out t1_) (fun _ _ _ h => h) (Or.inr ⟨by rfl, rfl⟩) ?_ ?_
                   rotate_left
                   ·
                    simp only [Act.put, List.setIfInBounds_toArray, List.set_cons_zero, List.set_cons_succ, i64_w, i32_w]
                    rfl
                   refine pure_ (i := 24) (N := some 115) (v := undef) (a' := ?_) #[true, true, true, true, true, true, true, true, true, true, true, true, true, true, true, true, true, true, true, true, true, true, true, true, true, false, false, false, false, false, false] rfl rfl (any_of HT_.out t1_) (fun _ _ _ h => h) (Or.inr ⟨by rfl, rfl⟩) ?_ ?_
                   rotate_left
                   ·
                    simp only [Act.put, List.setIfInBounds_toArray, List.set_cons_zero, List.set_cons_succ, i64_w, i32_w]
                    rfl
                   refine pure_ (i := 25) (N := some 116) (v := undef) (a' := ?_) #[true, true, true, true, true, true, true, true, true, true, true, true, true, true, true, true, true, true, true, true, true, true, true, true, true, true, false, false, false, false, false] rfl rfl (any_of HT_.out t1_) (fun _ _ _ h => h) (Or.inr ⟨by rfl, rfl⟩) ?_ ?_
                   rotate_left
                   ·
                    simp only [Act.put, List.setIfInBounds_toArray, List.set_cons_zero, List.set_cons_succ, i64_w, i32_w]
                    rfl
                   refine pure_ (i := 26) (N := some 117) (v := undef) (a' := ?_) #[true, true, true, true, true, true, true, true, true, true, true, true, true, true, true, true, true, true, true, true, true, true, true, true, true, true, true, false, false, false, false] rfl rfl (any_of HT_.out t1_) (fun _ _ _ h => h) (Or.inr ⟨by rfl, rfl⟩) ?_ ?_
                   rotate_left
                   ·
                    simp only [Act.put, List.setIfInBounds_toArray, List.set_cons_zero, List.set_cons_succ, i64_w, i32_w]
                    rfl
                   refine pure_ (i := 27) (N := some 118) (v := undef) (a' := ?_) #[true, true, true, true, true, true, true, true, true, true, true, true, true, true, true, true, true, true, true, true, true, true, true, true, true, true, true, true, false, false, false] rfl rfl (any_of HT_.out t1_) (fun _ _ _ h => h) (Or.inr ⟨by rfl, rfl⟩) ?_ ?_
                   rotate_left
                   ·
                    simp only [Act.put, List.setIfInBounds_toArray, List.set_cons_zero, List.set_cons_succ, i64_w, i32_w]
                    rfl
                   refine pure_ (i := 28) (N := some 119) (v := undef) (a' := ?_) #[true, true, true, true, true, true, true, true, true, true, true, true, true, true, true, true, true, true, true, true, true, true, true, true, true, true, true, true, true, false, false] rfl rfl (any_of HT_.out t1_) (fun _ _ _ h => h) (Or.inr ⟨by rfl, rfl⟩) ?_ ?_
                   rotate_left
                   ·
                    simp only [Act.put, List.setIfInBounds_toArray, List.set_cons_zero, List.set_cons_succ, i64_w, i32_w]
                    rfl
                   refine pure_ (i := 29) (N := some 120) (v := ?_) (a' := ?_) #[true, true, true, true, true, true, true, true, true, true, true, true, true, true, true, true, true, true, true, true, true, true, true, true, true, true, true, true, true, true, false] rfl rfl (any_of HT_.out t1_) (fun _ _ _ h => h) (Or.inl ⟨by rfl, ?_⟩) ?_ ?_
                   rotate_left
                   ·
                    intro w'
                    go_simp
                    with_reducible rfl
                   rotate_left
                   ·
                    simp only [Act.put, List.setIfInBounds_toArray, List.set_cons_zero, List.set_cons_succ, i64_w, i32_w]
                    rfl
                   refine pure_ (i := 30) (N := some 121) (v := ?_) (a' := ?_) #[true, true, true, true, true, true, true, true, true, true, true, true, true, true, true, true, true, true, true, true, true, true, true, true, true, true, true, true, true, true, true] rfl rfl (any_of HT_.out t1_) (fun _ _ _ h => h) (Or.inl ⟨by rfl, ?_⟩) ?_ ?_
                   rotate_left
                   ·
                    intro w'
                    go_simp
                    with_reducible rfl
                   rotate_left
                   ·
                    simp only [Act.put, List.setIfInBounds_toArray, List.set_cons_zero, List.set_cons_succ, i64_w, i32_w]
                    rfl
                   refine done_ (done_of HT_.out t1_) ?_
                   have hcz114_0 : w113.cell? ⟨gb132, 0, none⟩ = some (.int .i64 ((rd_T43 t128 x87_3).f0)) := c_ BK132.out 0; have hcz114_1 : w113.cell? ⟨gb132, 1, none⟩ = some (.int .i64 ((rd_T43 t128 x87_3).f1)) := c_ BK132.out 1; have hfz114_0 := blk_frozen BK132.out 0; have hfz114_1 := blk_frozen BK132.out 1
                   try go_wp2_with (first | ((with_reducible refine gate_callee (f := 36) rfl ?_); refine goesL_ (some 127) rfl rfl Try.func36 t1_ rfl #[.agg #[.int .i64 ((rd_T43 t128 x87_3).f0), .int .i64 ((rd_T43 t128 x87_3).f1)]] rfl (by (try simp only [m1_, m2_, m3_]); first | done | rfl) ?_; (with_reducible refine (impl_Dart_score.calls ((rd_T43 t128 x87_3).f0) ((rd_T43 t128 x87_3).f1) t135 _ A104.out).mono ?_); rintro e w115 ⟨rfl, hb⟩; refine ⟨_, rfl, ?_⟩; have n0_ := a_ (Kd.R_below (R_ HO_3.out) hb); have n1_ := a_ (Kd.R_below (R_ HO_7.out) hb); have n2_ := a_ (Kd.R_below (R_ HO_85.out) hb); have n3_ := bb_ BK132 hb; have n4_ := a_ (below_step (L_ HB.out GE132.out GE132.out GE132.out) hb); clear HO_3; clear HO_7; clear HO_85; clear BK132; clear HB; have HO_3 := n0_; have HO_7 := n1_; have HO_85 := n2_; have BK132 := n3_; have HB := n4_; clear n0_ n1_ n2_ n3_ n4_; (try clear hb); (try clear hb2); (try clear hk); (try clear hi); obtain ⟨Ao116, co116, eo116⟩ := Kd.R_slice HO_3.out; subst eo116; have p136 : 0 ≤ ((ji105) : Int) := of_decide_eq_true t0_; have q136 : (ji105) < (x3_1.length : Int) := of_decide_eq_true t0_; obtain ⟨ad136, e136, hx136_0⟩ := Kd.at_int (Kd.R_reads' HO_3.out).2.2 (ji105) p136 q136; cases e136; replace p136 := eq_true p136; replace q136 := eq_true q136; have p108 : 0 ≤ (x79_2 : Int) := of_decide_eq_true t0_; have q108 : (x79_2 : Int) < ((x7_3.length : Int) : Int) := of_decide_eq_true t0_; obtain ⟨hx108_0, hf108_0⟩ := Kd.R_celln 0 HO_7.out (x79_2 : Int) p108 q108; replace p108 := eq_true p108; replace q108 := eq_true q108; obtain ⟨hy117_, hz117_⟩ := Kd.R_celln 0 HO_7.out (x79_2 : Int) (of_decide_eq_true t0_) (of_decide_eq_true t0_); have HP117 := Kd.R_putg HO_7.out (x79_2 : Int) (wrap64 ((rd x3_1 (ji105)) + 1))) | ((with_reducible refine gate_store (t := 3) (p := 132) rfl ?_); refine store_event (t := 3) (p := 132) (v := ?vo_w118) (w1 := (w115.setCell ⟨go89, (x79_2 : Int).toNat, none⟩ (.int .i64 (wrap64 ((rd x3_1 (ji105)) + 1))))) ?hg ?ho ?hn ?hr ?_; (case ho => rfl); (case hg => rfl); (case hn => rfl); (case hr => first | (go_simp; done) | (go_simp; rfl)); intro w118 hw; have hg : w115.grownBy w118 (some go89) := (by rw [hw]; exact HP117.2); have hp_ : Kd.R (Kd.int .i64) 3 w118 w.heap.size (fun k_ => some k_ ≠ (.slice (some ad136) x3_1.length co116 : Value).ownBlock) (.slice (some ⟨go89, 0, none⟩) x7_3.length co85) y137 := (by rw [hw, Ny137.out]; exact HP117.1); clear HP117; have n0_ := a_ (Kd.R_after (v := (.slice (some ⟨go89, 0, none⟩) x7_3.length co85)) (v1 := (.slice (some ⟨go89, 0, none⟩) x7_3.length co85)) (ok := (fun _ => True)) t44_ hg (.inl rfl)); have n1_ := a_ (hp_); have n2_ := a_ (Kd.R_over' (v := (.slice (some ⟨go89, 0, none⟩) x7_3.length co85)) (R_ HO_85.out) (Kd.R_typed HO_7.out) t29_ hg); have n3_ := a_ (blk_grown (B_ BK132.out) hg (Kd.R_ne HO_7.out BK132.out t29_)); have n4_ := a_ ((by rw [hw]; exact below_set (HB.out) GB89.out : Below w.heap.size w w118)); clear HO_3; clear HO_7; clear HO_85; clear BK132; clear HB; have HO_3 := n0_; have HO_7 := n1_; have HO_85 := n2_; have BK132 := n3_; have HB := n4_; clear n0_ n1_ n2_ n3_ n4_; clear hg hw hp_))
                   (try simp only [← hl7_3])
                   go_roundg k3
                   case measure => have := HK1.out; have := HK2.out; have := HK3.out; omega
                   case rel => exact ⟨(y137), (wrap64 (x87_3 + 1)), t2_, H', ⟨t49_⟩, ⟨t47_⟩, ⟨t27_⟩, ⟨t26_⟩, ⟨L_ HB.out GE132.out GE132.out GE132.out⟩⟩
                  ·
                   rw [if_neg c107] at H
                   exact absurd H t31_
                 ·
                  rw [if_neg c106] at H
                  exact absurd H t31_
                ·
                 rw [if_neg c103] at H; have c103b0 : decide ((rd x7_3 x79_2) < 0) = false := decide_eq_false c103; clear c103; replace H := Option.bind_eq_some_iff.mp H; obtain ⟨t138, A1190, H⟩ := H; replace H : (if 0 ≤ (wrap64 (x79_2 - t138)) then (if (wrap64 (x79_2 - t138)) < (x3_1.length : Int) then (if (wrap64 ((rd x3_1 (wrap64 (x79_2 - t138))) + 1)) < (rd x7_3 x79_2) then ((impl_Dart_score.f ((rd_T43 t128 x87_3).f0) ((rd_T43 t128 x87_3).f1)).bind fun t141 => (if 0 ≤ (wrap64 (x79_2 - t141)) then (if (wrap64 (x79_2 - t141)) < (x3_1.length : Int) then (fewP.l3 k3 x3_1 (x7_3.set (x79_2 : Int).toNat (wrap64 ((rd x3_1 (wrap64 (x79_2 - t141))) + 1))) x79_2 (y124.length : Int) x79_2 t128 (t128.length : Int) (wrap64 (x87_3 + 1))) else (none)) else (none))) else (fewP.l3 k3 x3_1 x7_3 x79_2 (y124.length : Int) x79_2 t128 (t128.length : Int) (wrap64 (x87_3 + 1)))) else (none)) else (none)) = some r := H; have A119 := a_ A1190; clear A1190; obtain ⟨ji120, hji120⟩ : ∃ j_ : Int, (wrap64 (x79_2 - t138)) = j_ := ⟨_, rfl⟩; replace H : (if 0 ≤ (ji120) then (if (ji120) < (x3_1.length : Int) then (if (wrap64 ((rd x3_1 (ji120)) + 1)) < (rd x7_3 x79_2) then ((impl_Dart_score.f ((rd_T43 t128 x87_3).f0) ((rd_T43 t128 x87_3).f1)).bind fun t141 => (if 0 ≤ (wrap64 (x79_2 - t141)) then (if (wrap64 (x79_2 - t141)) < (x3_1.length : Int) then (fewP.l3 k3 x3_1 (x7_3.set (x79_2 : Int).toNat (wrap64 ((rd x3_1 (wrap64 (x79_2 - t141))) + 1))) x79_2 (y124.length : Int) x79_2 t128 (t128.length : Int) (wrap64 (x87_3 + 1))) else (none)) else (none))) else (fewP.l3 k3 x3_1 x7_3 x79_2 (y124.length : Int) x79_2 t128 (t128.length : Int) (wrap64 (x87_3 + 1)))) else (none)) else (none)) = some r := by first | (rw [hji120] at H; exact H) | (simp only [hji120] at H ⊢; exact H)
                 (try rw [hji120] at A99)
                 (try rw [hji120] at A119)
                 have hji120w : (IntKind.i64.wrap (x79_2 - t138)) = ji120 := (i64_w _).trans hji120
                 by_cases c121 : 0 ≤ (ji120)
                 ·
                  rw [if_pos c121] at H; have c121b0 : decide (0 ≤ (ji120)) = true := decide_eq_true c121; clear c121
                  by_cases c122 : (ji120) < (x3_1.length : Int)
                  ·
                   rw [if_pos c122] at H; have c122b0 : decide ((ji120) < (x3_1.length : Int)) = true := decide_eq_true c122; clear c122
                   by_cases c123 : (wrap64 ((rd x3_1 (ji120)) + 1)) < (rd x7_3 x79_2)
                   ·
                    rw [if_pos c123] at H; have c123b0 : decide ((wrap64 ((rd x3_1 (ji120)) + 1)) < (rd x7_3 x79_2)) = true := decide_eq_true c123; clear c123; replace H := Option.bind_eq_some_iff.mp H; obtain ⟨t141, A1240, H⟩ := H; replace H : (if 0 ≤ (wrap64 (x79_2 - t141)) then (if (wrap64 (x79_2 - t141)) < (x3_1.length : Int) then (fewP.l3 k3 x3_1 (x7_3.set (x79_2 : Int).toNat (wrap64 ((rd x3_1 (wrap64 (x79_2 - t141))) + 1))) x79_2 (y124.length : Int) x79_2 t128 (t128.length : Int) (wrap64 (x87_3 + 1))) else (none)) else (none)) = some r := H; have A124 := a_ A1240; clear A1240; obtain ⟨ji125, hji125⟩ : ∃ j_ : Int, (wrap64 (x79_2 - t141)) = j_ := ⟨_, rfl⟩; replace H : (if 0 ≤ (ji125) then (if (ji125) < (x3_1.length : Int) then (fewP.l3 k3 x3_1 (x7_3.set (x79_2 : Int).toNat (wrap64 ((rd x3_1 (ji125)) + 1))) x79_2 (y124.length : Int) x79_2 t128 (t128.length : Int) (wrap64 (x87_3 + 1))) else (none)) else (none)) = some r := by first | (rw [hji125] at H; exact H) | (simp only [hji125] at H ⊢; exact H)
                    (try rw [hji125] at A99)
                    (try rw [hji125] at A119)
                    (try rw [hji125] at A124)
                    have hji125w : (IntKind.i64.wrap (x79_2 - t141)) = ji125 := (i64_w _).trans hji125
                    by_cases c126 : 0 ≤ (ji125)
                    ·
                     rw [if_pos c126] at H; have c126b0 : decide (0 ≤ (ji125)) = true := decide_eq_true c126; clear c126
                     by_cases c127 : (ji125) < (x3_1.length : Int)
                     ·
                      rw [if_pos c127] at H; have c127b0 : decide ((ji125) < (x3_1.length : Int)) = true := decide_eq_true c127; clear c127; obtain ⟨y143, hy143⟩ : ∃ y_ : List Int, y_ = (x7_3.set (x79_2 : Int).toNat (wrap64 ((rd x3_1 (ji125)) + 1))) := ⟨_, rfl⟩; replace H : (fewP.l3 k3 x3_1 y143 x79_2 (y124.length : Int) x79_2 t128 (t128.length : Int) (wrap64 (x87_3 + 1))) = some r := by first | (rw [hy143]; with_reducible exact H) | (have H2_ := (Option.bind_some _ _).symm.trans H; rw [hy143]; with_reducible exact H2_) | (have H2_ := (Option.bind_some _ _).symm.trans H; with_reducible exact H2_) | with_reducible exact H | (rw [hy143]; exact H) | exact H
                      have Ny143 := a_ hy143; clear hy143; have H' := a_ H; clear H; have p131 : 0 ≤ (x87_3 : Int) := of_decide_eq_true t0_; have q131 : x87_3 < (t128.length : Int) := of_decide_eq_true t0_; obtain ⟨ad131, e131, hx131_0, hx131_1⟩ := at_T43 (Kd.R_reads' HO_85.out).2.2 x87_3 p131 q131
                      cases e131
                      replace p131 := eq_true p131; replace q131 := eq_true q131
                      try go_wp2_with (first | ((with_reducible refine gate_dst (N := 10) rfl ?_); refine box_event ?hg (N := 10) ?hd (cs := #[.int .i64 0, .int .i64 0]) (t := 43) ?hr ?_; (case hd => rfl); (case hg => rfl); (case hr => first | (go_simp; done) | (go_simp; rfl)); intro gb132 hg w129 hbox hb; have n0_ := a_ (Kd.R_below (R_ HO_3.out) hb); have n1_ := a_ (Kd.R_below (R_ HO_7.out) hb); have n2_ := a_ (Kd.R_below (Kd.R_elderB (R_ HO_85.out) gb132 (Nat.le_of_eq hg.symm)) hb); have n3_ := a_ (below_step (L_ HB.out (Nat.le_refl _) (Nat.le_refl _) (Nat.le_refl _)) hb); have n4_ := a_ (hbox); have n5_ := a_ ((by rw [hg]; exact (below_size (L_ HB.out (Nat.le_refl _) (Nat.le_refl _) (Nat.le_refl _))) : w.heap.size ≤ gb132)); have n6_ := a_ ((by rw [hg]; exact (below_size (L_ HB.out (Nat.le_refl _) (Nat.le_refl _) (Nat.le_refl _))) : w.heap.size ≤ gb132)); clear HO_3; clear HO_7; clear HO_85; clear HB; have HO_3 := n0_; have HO_7 := n1_; have HO_85 := n2_; have HB := n3_; have BK132 := n4_; have GW132 := n5_; have GE132 := n6_; clear n0_ n1_ n2_ n3_ n4_ n5_ n6_; clear hb hbox hg; have hcz130_0 : w129.cell? ⟨gb132, 0, none⟩ = some (.int .i64 0) := c_ BK132.out 0; have hcz130_1 : w129.cell? ⟨gb132, 1, none⟩ = some (.int .i64 0) := c_ BK132.out 1; have hfz130_0 := blk_frozen BK132.out 0; have hfz130_1 := blk_frozen BK132.out 1))
                      have n0_ : Aside0 (Kd.R (Kd.int .i64) 3 ((w129.setCell ⟨gb132, 0, none⟩ (.int .i64 ((rd_T43 t128 x87_3).f0))).setCell ⟨gb132, 1, none⟩ (.int .i64 ((rd_T43 t128 x87_3).f1))) w.heap.size (fun k_ => some k_ ≠ (.slice (some ⟨go89, 0, none⟩) x7_3.length co85 : Value).ownBlock) aA x3_1) := ⟨t13_⟩; have n1_ : Aside0 (Kd.R (Kd.int .i64) 3 ((w129.setCell ⟨gb132, 0, none⟩ (.int .i64 ((rd_T43 t128 x87_3).f0))).setCell ⟨gb132, 1, none⟩ (.int .i64 ((rd_T43 t128 x87_3).f1))) w.heap.size (fun k_ => some k_ ≠ (aA : Value).ownBlock) (.slice (some ⟨go89, 0, none⟩) x7_3.length co85) x7_3) := ⟨t14_⟩; have n2_ : Aside0 (Kd.R k43 43 ((w129.setCell ⟨gb132, 0, none⟩ (.int .i64 ((rd_T43 t128 x87_3).f0))).setCell ⟨gb132, 1, none⟩ (.int .i64 ((rd_T43 t128 x87_3).f1))) w.heap.size (fun k_ => k_ ≠ gb132) (.slice (some ad131) t128.length co94) t128) := ⟨t8_⟩; have n3_ : Aside0 (((w129.setCell ⟨gb132, 0, none⟩ (.int .i64 ((rd_T43 t128 x87_3).f0))).setCell ⟨gb132, 1, none⟩ (.int .i64 ((rd_T43 t128 x87_3).f1))).heap[gb132]? = some (.cells #[.int .i64 ((rd_T43 t128 x87_3).f0), .int .i64 ((rd_T43 t128 x87_3).f1)] 43 (0, 0))) := ⟨t10_⟩; have n4_ : Aside0 (Below w.heap.size w ((w129.setCell ⟨gb132, 0, none⟩ (.int .i64 ((rd_T43 t128 x87_3).f0))).setCell ⟨gb132, 1, none⟩ (.int .i64 ((rd_T43 t128 x87_3).f1)))) := ⟨L_ HB.out GE132.out GE132.out GE132.out⟩
                      (try clear HO_3)
                      (try clear HO_7)
                      (try clear HO_85)
                      (try clear BK132)
                      (try clear HB)
                      generalize ((w129.setCell ⟨gb132, 0, none⟩ (.int .i64 ((rd_T43 t128 x87_3).f0))).setCell ⟨gb132, 1, none⟩ (.int .i64 ((rd_T43 t128 x87_3).f1))) = w131 at n0_ n1_ n2_ n3_ n4_ ⊢; have HO_3 := n0_; have HO_7 := n1_; have HO_85 := n2_; have BK132 := n3_; have HB := n4_; clear n0_ n1_ n2_ n3_ n4_; have n0_ := a_ (Kd.R_drew HO_3.out); have n1_ := a_ (Kd.R_drew HO_7.out); have n2_ := a_ (Kd.R_drew HO_85.out); have n3_ := a_ (blk_drew BK132.out); have n4_ := a_ (below_drew1 HB.out); clear HO_3; clear HO_7; clear HO_85; clear BK132; clear HB; have HO_3 := n0_; have HO_7 := n1_; have HO_85 := n2_; have BK132 := n3_; have HB := n4_; clear n0_ n1_ n2_ n3_ n4_; have p134 : 0 ≤ (x79_2 : Int) := of_decide_eq_true t0_; have q134 : x79_2 < (x7_3.length : Int) := of_decide_eq_true t0_; obtain ⟨ad134, e134, hx134_0⟩ := Kd.at_int (Kd.R_reads' HO_7.out).2.2 x79_2 p134 q134; obtain rfl : (⟨go89, 0, none⟩ : Addr) = ad134 := (by injection e134)
                      (first | simp only [add_plain] at hx134_0 | simp only [add_at] at hx134_0 | simp only [Addr.add, Nat.zero_add] at hx134_0 | skip)
                      replace p134 := eq_true p134; replace q134 := eq_true q134; have p139 : 0 ≤ ((ji120) : Int) := of_decide_eq_true t0_; have q139 : (ji120) < (x3_1.length : Int) := of_decide_eq_true t0_; obtain ⟨Ao139, co139, eo139⟩ := Kd.R_slice HO_3.out; subst eo139; obtain ⟨ad139, e139, hx139_0⟩ := Kd.at_int (Kd.R_reads' HO_3.out).2.2 (ji120) p139 q139
                      cases e139
                      replace p139 := eq_true p139; replace q139 := eq_true q139; have p140 : 0 ≤ (x79_2 : Int) := of_decide_eq_true t0_; have q140 : x79_2 < (x7_3.length : Int) := of_decide_eq_true t0_; obtain ⟨ad140, e140, hx140_0⟩ := Kd.at_int (Kd.R_reads' HO_7.out).2.2 x79_2 p140 q140; obtain rfl : (⟨go89, 0, none⟩ : Addr) = ad140 := (by injection e140)
                      (first | simp only [add_plain] at hx140_0 | simp only [add_at] at hx140_0 | simp only [Addr.add, Nat.zero_add] at hx140_0 | skip)
                      replace p140 := eq_true p140; replace q140 := eq_true q140
                      refine start_ (n := 31) (S := fun w' => w'.cell? ⟨gb132, 0, none⟩ = some (.int .i64 ((rd_T43 t128 x87_3).f0)) ∧ w'.cell? ⟨gb132, 1, none⟩ = some (.int .i64 ((rd_T43 t128 x87_3).f1)) ∧ w'.cell? ⟨go89, (x79_2).toNat, none⟩ = some (.int .i64 (rd x7_3 x79_2)) ∧ w'.cell? (ad139.add ((ji120)).toNat) = some (.int .i64 (rd x3_1 (ji120))) ∧ w'.cell? ⟨go89, (x79_2).toNat, none⟩ = some (.int .i64 (rd x7_3 x79_2))) (ds := []) #[false, false, false, false, false, false, false, false, false, false, false, false, false, false, false, false, false, false, false, false, false, false, false, false, false, false, false, false, false, false, false] t1_ rfl rfl ⟨c_ BK132.out 0, c_ BK132.out 1, hx134_0, hx139_0, hx140_0⟩ (fun hHeld => ?_); refine with_tabW fewP.tab22 fewP.bits22 (fun HT_ HW_ => ?_)
                      generalize w131.drew = w132 at HO_3 HO_7 HO_85 BK132 HB hx134_0 hx139_0 hx140_0 hHeld ⊢
                      refine pure_ (i := 0) (N := some 91) (v := ?_) (a' := ?_) #[true, false, false, false, false, false, false, false, false, false, false, false, false, false, false, false, false, false, false, false, false, false, false, false, false, false, false, false, false, false, false] rfl rfl (any_of HT_.out t1_) (fun _ _ _ h => h) (Or.inl ⟨by rfl, ?_⟩) ?_ ?_
                      rotate_left
                      ·
                       intro w'
                       go_simp
                       with_reducible rfl
                      rotate_left
                      ·
                       simp only [Act.put, List.setIfInBounds_toArray, List.set_cons_zero, List.set_cons_succ, i64_w, i32_w]
                       rfl
                      refine take_ (i := 1) (N := some 92) (v := ?_) (a' := ?_) #[true, true, false, false, false, false, false, false, false, false, false, false, false, false, false, false, false, false, false, false, false, false, false, false, false, false, false, false, false, false, false] rfl rfl (take_ofW HT_.out HW_.out t1_) (fun _ _ _ h => h) (Or.inl ⟨by rfl, ?_⟩) hHeld ?_ ?_
                      rotate_left
                      ·
                       rintro w' ⟨s0, s1, s2, s3, s4⟩
                       go_simp
                       with_reducible rfl
                      rotate_left
                      ·
                       simp only [Act.put, List.setIfInBounds_toArray, List.set_cons_zero, List.set_cons_succ, i64_w, i32_w]
                       rfl
                      refine pure_ (i := 2) (N := some 93) (v := ?_) (a' := ?_) #[true, true, true, false, false, false, false, false, false, false, false, false, false, false, false, false, false, false, false, false, false, false, false, false, false, false, false, false, false, false, false] rfl rfl (any_of HT_.out t1_) (fun _ _ _ h => h) (Or.inl ⟨by rfl, ?_⟩) ?_ ?_
                      rotate_left
                      ·
                       intro w'
                       go_simp
                       with_reducible rfl
                      rotate_left
                      ·
                       simp only [Act.put, List.setIfInBounds_toArray, List.set_cons_zero, List.set_cons_succ, i64_w, i32_w]
                       rfl
                      refine pure_ (i := 3) (N := some 94) (v := ?_) (a' := ?_) #[true, true, true, true, false, false, false, false, false, false, false, false, false, false, false, false, false, false, false, false, false, false, false, false, false, false, false, false, false, false, false] rfl rfl (any_of HT_.out t1_) (fun _ _ _ h => h) (Or.inl ⟨by rfl, ?_⟩) ?_ ?_
                      rotate_left
                      ·
                       intro w'
                       go_simp
                       with_reducible rfl
                      rotate_left
                      ·
                       simp only [Act.put, List.setIfInBounds_toArray, List.set_cons_zero, List.set_cons_succ, i64_w, i32_w]
                       rfl
                      refine pure_ (i := 6) (N := some 97) (v := ?_) (a' := ?_) #[true, true, true, true, false, false, true, false, false, false, false, false, false, false, false, false, false, false, false, false, false, false, false, false, false, false, false, false, false, false, false] rfl rfl (any_of HT_.out t1_) (fun _ _ _ h => h) (Or.inl ⟨by rfl, ?_⟩) ?_ ?_
                      rotate_left
                      ·
                       intro w'
                       go_simp
                       with_reducible rfl
                      rotate_left
                      ·
                       simp only [Act.put, List.setIfInBounds_toArray, List.set_cons_zero, List.set_cons_succ, i64_w, i32_w]
                       rfl
                      refine take_ (i := 4) (N := some 95) (v := ?_) (a' := ?_) #[true, true, true, true, true, false, true, false, false, false, false, false, false, false, false, false, false, false, false, false, false, false, false, false, false, false, false, false, false, false, false] rfl rfl (take_ofW HT_.out HW_.out t1_) (fun _ _ _ h => h) (Or.inl ⟨by rfl, ?_⟩) hHeld ?_ ?_
                      rotate_left
                      ·
                       rintro w' ⟨s0, s1, s2, s3, s4⟩
                       go_simp
                       with_reducible rfl
                      rotate_left
                      ·
                       simp only [Act.put, List.setIfInBounds_toArray, List.set_cons_zero, List.set_cons_succ, i64_w, i32_w]
                       rfl
                      refine one_ (i := 5) (N := some 96) #[true, true, true, true, true, true, true, false, false, false, false, false, false, false, false, false, false, false, false, false, false, false, false, false, false, false, false, false, false, false, false] rfl rfl (one_of HT_.out t1_) t29_ (fun K hK => ?_)
                      refine goes_ Try.func36 t1_ rfl #[.agg #[.int .i64 ((rd_T43 t128 x87_3).f0), .int .i64 ((rd_T43 t128 x87_3).f1)]] (by rfl) rfl rfl (by (try simp only [m1_, m2_, m3_]); first | done | rfl) ?_
                      with_reducible refine (impl_Dart_score.calls ((rd_T43 t128 x87_3).f0) ((rd_T43 t128 x87_3).f1) t133 _ A99.out).mono ?_
                      rintro e w133 ⟨rfl, hb⟩; have HS2_ := (hb.cell (World.block_lt_of_cell? _ _ (hHeld.2.2.1))).trans (hHeld.2.2.1); have HS3_ := (hb.cell (World.block_lt_of_cell? _ _ (hHeld.2.2.2.1))).trans (hHeld.2.2.2.1); have HS4_ := (hb.cell (World.block_lt_of_cell? _ _ (hHeld.2.2.2.2))).trans (hHeld.2.2.2.2)
                      refine ⟨_, rfl, ?_⟩
                      have n0_ := a_ (Kd.R_below (R_ HO_3.out) hb); have n1_ := a_ (Kd.R_below (R_ HO_7.out) hb); have n2_ := a_ (Kd.R_below (R_ HO_85.out) hb); have n3_ := bb_ BK132 hb; have n4_ := a_ (below_step (L_ HB.out GE132.out GE132.out GE132.out) hb); clear HO_3; clear HO_7; clear HO_85; clear BK132; clear HB; have HO_3 := n0_; have HO_7 := n1_; have HO_85 := n2_; have BK132 := n3_; have HB := n4_; clear n0_ n1_ n2_ n3_ n4_
                      (try clear hb)
                      (try clear hb2)
                      (try clear hk)
                      (try clear hi)
                      refine hK.out _ _ ⟨c_ BK132.out 0, c_ BK132.out 1, HS2_, HS3_, HS4_⟩ (fun hHeld => ?_)
                      clear hK K
                      refine norm_ (a' := ?_) ?_ ?_
                      rotate_left
                      ·
                       show Act.put _ (some 96) _ = _
                       simp only [Act.put, List.setIfInBounds_toArray, List.set_cons_zero, List.set_cons_succ, i64_w, i32_w]
                       rfl
                      refine pure_ (i := 7) (N := some 98) (v := ?_) (a' := ?_) #[true, true, true, true, true, true, true, true, false, false, false, false, false, false, false, false, false, false, false, false, false, false, false, false, false, false, false, false, false, false, false] rfl rfl (any_of HT_.out t1_) (fun _ _ _ h => h) (Or.inl ⟨by rfl, ?_⟩) ?_ ?_
                      rotate_left
                      ·
                       intro w'
                       go_simp
                       with_reducible rfl
                      rotate_left
                      ·
                       simp only [Act.put, List.setIfInBounds_toArray, List.set_cons_zero, List.set_cons_succ, i64_w, i32_w]
                       rfl
                      refine pure_ (i := 8) (N := some 99) (v := ?_) (a' := ?_) #[true, true, true, true, true, true, true, true, true, false, false, false, false, false, false, false, false, false, false, false, false, false, false, false, false, false, false, false, false, false, false] rfl rfl (any_of HT_.out t1_) (fun _ _ _ h => h) (Or.inl ⟨by rfl, ?_⟩) ?_ ?_
                      rotate_left
                      ·
                       intro w'
                       go_simp
                       with_reducible rfl
                      rotate_left
                      ·
                       simp only [Act.put, List.setIfInBounds_toArray, List.set_cons_zero, List.set_cons_succ, i64_w, i32_w]
                       rfl
                      refine pure_ (i := 9) (N := some 100) (v := ?_) (a' := ?_) #[true, true, true, true, true, true, true, true, true, true, false, false, false, false, false, false, false, false, false, false, false, false, false, false, false, false, false, false, false, false, false] rfl rfl (any_of HT_.out t1_) (fun _ _ _ h => h) (Or.inl ⟨by rfl, ?_⟩) ?_ ?_
                      rotate_left
                      ·
                       intro w'
                       go_simp
                       with_reducible rfl
                      rotate_left
                      ·
                       simp only [Act.put, List.setIfInBounds_toArray, List.set_cons_zero, List.set_cons_succ, i64_w, i32_w]
                       rfl
                      refine pure_ (i := 10) (N := some 101) (v := ?_) (a' := ?_) #[true, true, true, true, true, true, true, true, true, true, true, false, false, false, false, false, false, false, false, false, false, false, false, false, false, false, false, false, false, false, false] rfl rfl (any_of HT_.out t1_) (fun _ _ _ h => h) (Or.inl ⟨by rfl, ?_⟩) ?_ ?_
                      rotate_left
                      ·
                       intro w'
                       go_simp
                       with_reducible rfl
                      rotate_left
                      ·
                       simp only [Act.put, List.setIfInBounds_toArray, List.set_cons_zero, List.set_cons_succ, i64_w, i32_w]
                       rfl
                      refine pure_ (i := 11) (N := some 102) (v := ?_) (a' := ?_) #[true, true, true, true, true, true, true, true, true, true, true, true, false, false, false, false, false, false, false, false, false, false, false, false, false, false, false, false, false, false, false] rfl rfl (any_of HT_.out t1_) (fun _ _ _ h => h) (Or.inl ⟨by rfl, ?_⟩) ?_ ?_
                      rotate_left
                      ·
                       intro w'
                       go_simp
                       with_reducible rfl
                      rotate_left
                      ·
                       simp only [Act.put, List.setIfInBounds_toArray, List.set_cons_zero, List.set_cons_succ, i64_w, i32_w]
                       rfl
                      refine pure_ (i := 12) (N := some 103) (v := ?_) (a' := ?_) #[true, true, true, true, true, true, true, true, true, true, true, true, true, false, false, false, false, false, false, false, false, false, false, false, false, false, false, false, false, false, false] rfl rfl (any_of HT_.out t1_) (fun _ _ _ h => h) (Or.inl ⟨by rfl, ?_⟩) ?_ ?_
                      rotate_left
                      ·
                       intro w'
                       go_simp
                       with_reducible rfl
                      rotate_left
                      ·
                       simp only [Act.put, List.setIfInBounds_toArray, List.set_cons_zero, List.set_cons_succ, i64_w, i32_w]
                       rfl
                      refine take_ (i := 13) (N := some 104) (v := ?_) (a' := ?_) #[true, true, true, true, true, true, true, true, true, true, true, true, true, true, false, false, false, false, false, false, false, false, false, false, false, false, false, false, false, false, false] rfl rfl (take_ofW HT_.out HW_.out t1_) (fun _ _ _ h => h) (Or.inl ⟨by rfl, ?_⟩) hHeld ?_ ?_
                      rotate_left
                      ·
                       rintro w' ⟨s0, s1, s2, s3, s4⟩
                       go_simp
                       with_reducible rfl
                      rotate_left
                      ·
                       simp only [Act.put, List.setIfInBounds_toArray, List.set_cons_zero, List.set_cons_succ, i64_w, i32_w]
                       rfl
                      refine pure_ (i := 14) (N := some 105) (v := ?_) (a' := ?_) #[true, true, true, true, true, true, true, true, true, true, true, true, true, true, true, false, false, false, false, false, false, false, false, false, false, false, false, false, false, false, false] rfl rfl (any_of HT_.out t1_) (fun _ _ _ h => h) (Or.inl ⟨by rfl, ?_⟩) ?_ ?_
                      rotate_left
                      ·
                       intro w'
                       go_simp
                       with_reducible rfl
                      rotate_left
                      ·
                       simp only [Act.put, List.setIfInBounds_toArray, List.set_cons_zero, List.set_cons_succ, i64_w, i32_w]
                       rfl
                      refine pure_ (i := 15) (N := some 106) (v := ?_) (a' := ?_) #[true, true, true, true, true, true, true, true, true, true, true, true, true, true, true, true, false, false, false, false, false, false, false, false, false, false, false, false, false, false, false] rfl rfl (any_of HT_.out t1_) (fun _ _ _ h => h) (Or.inl ⟨by rfl, ?_⟩) ?_ ?_
                      rotate_left
                      ·
                       intro w'
                       go_simp
                       with_reducible rfl
                      rotate_left
                      ·
                       simp only [Act.put, List.setIfInBounds_toArray, List.set_cons_zero, List.set_cons_succ, i64_w, i32_w]
                       rfl
                      refine pure_ (i := 16) (N := some 107) (v := ?_) (a' := ?_) #[true, true, true, true, true, true, true, true, true, true, true, true, true, true, true, true, true, false, false, false, false, false, false, false, false, false, false, false, false, false, false] rfl rfl (any_of HT_.out t1_) (fun _ _ _ h => h) (Or.inl ⟨by rfl, ?_⟩) ?_ ?_
                      rotate_left
                      ·
                       intro w'
                       go_simp
                       with_reducible rfl
                      rotate_left
                      ·
                       simp only [Act.put, List.setIfInBounds_toArray, List.set_cons_zero, List.set_cons_succ, i64_w, i32_w]
                       rfl
                      refine pure_ (i := 17) (N := some 108) (v := ?_) (a' := ?_) #[true, true, true, true, true, true, true, true, true, true, true, true, true, true, true, true, true, true, false, false, false, false, false, false, false, false, false, false, false, false, false] rfl rfl (any_of HT_.out t1_) (fun _ _ _ h => h) (Or.inl ⟨by rfl, ?_⟩) ?_ ?_
                      rotate_left
                      ·
                       intro w'
                       go_simp
                       with_reducible rfl
                      rotate_left
                      ·
                       simp only [Act.put, List.setIfInBounds_toArray, List.set_cons_zero, List.set_cons_succ, i64_w, i32_w]
                       rfl
                      refine pure_ (i := 24) (N := some 115) (v := ?_) (a' := ?_) #[true, true, true, true, true, true, true, true, true, true, true, true, true, true, true, true, true, true, false, false, false, false, false, false, true, false, false, false, false, false, false] rfl rfl (any_of HT_.out t1_) (fun _ _ _ h => h) (Or.inl ⟨by rfl, ?_⟩) ?_ ?_
                      rotate_left
                      ·
                       intro w'
                       go_simp
                       with_reducible rfl
                      rotate_left
                      ·
                       simp only [Act.put, List.setIfInBounds_toArray, List.set_cons_zero, List.set_cons_succ, i64_w, i32_w]
                       rfl
                      refine pure_ (i := 25) (N := some 116) (v := ?_) (a' := ?_) #[true, true, true, true, true, true, true, true, true, true, true, true, true, true, true, true, true, true, false, false, false, false, false, false, true, true, false, false, false, false, false] rfl rfl (any_of HT_.out t1_) (fun _ _ _ h => h) (Or.inl ⟨by rfl, ?_⟩) ?_ ?_
                      rotate_left
                      ·
                       intro w'
                       go_simp
                       with_reducible rfl
                      rotate_left
                      ·
                       simp only [Act.put, List.setIfInBounds_toArray, List.set_cons_zero, List.set_cons_succ, i64_w, i32_w]
                       rfl
                      refine pure_ (i := 26) (N := some 117) (v := ?_) (a' := ?_) #[true, true, true, true, true, true, true, true, true, true, true, true, true, true, true, true, true, true, false, false, false, false, false, false, true, true, true, false, false, false, false] rfl rfl (any_of HT_.out t1_) (fun _ _ _ h => h) (Or.inl ⟨by rfl, ?_⟩) ?_ ?_
                      rotate_left
                      ·
                       intro w'
                       go_simp
                       with_reducible rfl
                      rotate_left
                      ·
                       simp only [Act.put, List.setIfInBounds_toArray, List.set_cons_zero, List.set_cons_succ, i64_w, i32_w]
                       rfl
                      refine take_ (i := 18) (N := some 109) (v := ?_) (a' := ?_) #[true, true, true, true, true, true, true, true, true, true, true, true, true, true, true, true, true, true, true, false, false, false, false, false, true, true, true, false, false, false, false] rfl rfl (take_ofW HT_.out HW_.out t1_) (fun _ _ _ h => h) (Or.inl ⟨by rfl, ?_⟩) hHeld ?_ ?_
                      rotate_left
                      ·
                       rintro w' ⟨s0, s1, s2, s3, s4⟩
                       go_simp
                       with_reducible rfl
                      rotate_left
                      ·
                       simp only [Act.put, List.setIfInBounds_toArray, List.set_cons_zero, List.set_cons_succ, i64_w, i32_w]
                       rfl
                      refine take_ (i := 27) (N := some 118) (v := ?_) (a' := ?_) #[true, true, true, true, true, true, true, true, true, true, true, true, true, true, true, true, true, true, true, false, false, false, false, false, true, true, true, true, false, false, false] rfl rfl (take_ofW HT_.out HW_.out t1_) (fun _ _ _ h => h) (Or.inl ⟨by rfl, ?_⟩) hHeld ?_ ?_
                      rotate_left
                      ·
                       rintro w' ⟨s0, s1, s2, s3, s4⟩
                       go_simp
                       with_reducible rfl
                      rotate_left
                      ·
                       simp only [Act.put, List.setIfInBounds_toArray, List.set_cons_zero, List.set_cons_succ, i64_w, i32_w]
                       rfl
                      refine one_ (i := 19) (N := some 110) #[true, true, true, true, true, true, true, true, true, true, true, true, true, true, true, true, true, true, true, true, false, false, false, false, true, true, true, true, false, false, false] rfl rfl (one_of HT_.out t1_) t29_ (fun K hK => ?_)
                      refine goes_ Try.func36 t1_ rfl #[.agg #[.int .i64 ((rd_T43 t128 x87_3).f0), .int .i64 ((rd_T43 t128 x87_3).f1)]] (by rfl) rfl rfl (by (try simp only [m1_, m2_, m3_]); first | done | rfl) ?_
                      with_reducible refine (impl_Dart_score.calls ((rd_T43 t128 x87_3).f0) ((rd_T43 t128 x87_3).f1) t138 _ A119.out).mono ?_
                      rintro e w134 ⟨rfl, hb⟩; have HS2_ := (hb.cell (World.block_lt_of_cell? _ _ (hHeld.2.2.1))).trans (hHeld.2.2.1); have HS3_ := (hb.cell (World.block_lt_of_cell? _ _ (hHeld.2.2.2.1))).trans (hHeld.2.2.2.1); have HS4_ := (hb.cell (World.block_lt_of_cell? _ _ (hHeld.2.2.2.2))).trans (hHeld.2.2.2.2)
                      refine ⟨_, rfl, ?_⟩
                      have n0_ := a_ (Kd.R_below (R_ HO_3.out) hb); have n1_ := a_ (Kd.R_below (R_ HO_7.out) hb); have n2_ := a_ (Kd.R_below (R_ HO_85.out) hb); have n3_ := bb_ BK132 hb; have n4_ := a_ (below_step (L_ HB.out GE132.out GE132.out GE132.out) hb); clear HO_3; clear HO_7; clear HO_85; clear BK132; clear HB; have HO_3 := n0_; have HO_7 := n1_; have HO_85 := n2_; have BK132 := n3_; have HB := n4_; clear n0_ n1_ n2_ n3_ n4_
                      (try clear hb)
                      (try clear hb2)
                      (try clear hk)
                      (try clear hi)
                      obtain ⟨Ao135, co135, eo135⟩ := Kd.R_slice HO_3.out
                      (first | subst eo135 | (injection eo135 with f1_ f2_ f3_; have f4_ := f1_.symm; have f5_ := f3_.symm; clear f1_ f2_ f3_; subst f4_; subst f5_))
                      refine hK.out _ _ ⟨c_ BK132.out 0, c_ BK132.out 1, HS2_, HS3_, HS4_⟩ (fun hHeld => ?_)
                      clear hK K
                      refine norm_ (a' := ?_) ?_ ?_
                      rotate_left
                      ·
                       show Act.put _ (some 110) _ = _
                       simp only [Act.put, List.setIfInBounds_toArray, List.set_cons_zero, List.set_cons_succ, i64_w, i32_w]
                       rfl
                      refine pure_ (i := 20) (N := some 111) (v := ?_) (a' := ?_) #[true, true, true, true, true, true, true, true, true, true, true, true, true, true, true, true, true, true, true, true, true, false, false, false, true, true, true, true, false, false, false] rfl rfl (any_of HT_.out t1_) (fun _ _ _ h => h) (Or.inl ⟨by rfl, ?_⟩) ?_ ?_
                      rotate_left
                      ·
                       intro w'
                       go_simp
                       with_reducible rfl
                      rotate_left
                      ·
                       simp only [Act.put, List.setIfInBounds_toArray, List.set_cons_zero, List.set_cons_succ, i64_w, i32_w]
                       rfl
                      refine pure_ (i := 21) (N := some 112) (v := ?_) (a' := ?_) #[true, true, true, true, true, true, true, true, true, true, true, true, true, true, true, true, true, true, true, true, true, true, false, false, true, true, true, true, false, false, false] rfl rfl (any_of HT_.out t1_) (fun _ _ _ h => h) (Or.inl ⟨by rfl, ?_⟩) ?_ ?_
                      rotate_left
                      ·
                       intro w'
                       go_simp
                       with_reducible rfl
                      rotate_left
                      ·
                       simp only [Act.put, List.setIfInBounds_toArray, List.set_cons_zero, List.set_cons_succ, i64_w, i32_w]
                       rfl
                      refine take_ (i := 22) (N := some 113) (v := ?_) (a' := ?_) #[true, true, true, true, true, true, true, true, true, true, true, true, true, true, true, true, true, true, true, true, true, true, true, false, true, true, true, true, false, false, false] rfl rfl (take_ofW HT_.out HW_.out t1_) (fun _ _ _ h => h) (Or.inl ⟨by rfl, ?_⟩) hHeld ?_ ?_
                      rotate_left
                      ·
                       rintro w' ⟨s0, s1, s2, s3, s4⟩
                       go_simp
                       with_reducible rfl
                      rotate_left
                      ·
                       simp only [Act.put, List.setIfInBounds_toArray, List.set_cons_zero, List.set_cons_succ, i64_w, i32_w]
                       rfl
                      refine pure_ (i := 23) (N := some 114) (v := ?_) (a' := ?_) #[true, true, true, true, true, true, true, true, true, true, true, true, true, true, true, true, true, true, true, true, true, true, true, true, true, true, true, true, false, false, false] rfl rfl (any_of HT_.out t1_) (fun _ _ _ h => h) (Or.inl ⟨by rfl, ?_⟩) ?_ ?_
                      rotate_left
                      ·
                       intro w'
                       go_simp
                       with_reducible rfl
                      rotate_left
                      ·
                       simp only [Act.put, List.setIfInBounds_toArray, List.set_cons_zero, List.set_cons_succ, i64_w, i32_w]
                       rfl
                      refine pure_ (i := 28) (N := some 119) (v := ?_) (a' := ?_) #[true, true, true, true, true, true, true, true, true, true, true, true, true, true, true, true, true, true, true, true, true, true, true, true, true, true, true, true, true, false, false] rfl rfl (any_of HT_.out t1_) (fun _ _ _ h => h) (Or.inl ⟨by rfl, ?_⟩) ?_ ?_
                      rotate_left
                      ·
                       intro w'
                       go_simp
                       with_reducible rfl
                      rotate_left
                      ·
                       simp only [Act.put, List.setIfInBounds_toArray, List.set_cons_zero, List.set_cons_succ, i64_w, i32_w]
                       rfl
                      refine pure_ (i := 29) (N := some 120) (v := ?_) (a' := ?_) #[true, true, true, true, true, true, true, true, true, true, true, true, true, true, true, true, true, true, true, true, true, true, true, true, true, true, true, true, true, true, false] rfl rfl (any_of HT_.out t1_) (fun _ _ _ h => h) (Or.inl ⟨by rfl, ?_⟩) ?_ ?_
                      rotate_left
                      ·
                       intro w'
                       go_simp
                       with_reducible rfl
                      rotate_left
                      ·
                       simp only [Act.put, List.setIfInBounds_toArray, List.set_cons_zero, List.set_cons_succ, i64_w, i32_w]
                       rfl
                      refine pure_ (i := 30) (N := some 121) (v := ?_) (a' := ?_) #[true, true, true, true, true, true, true, true, true, true, true, true, true, true, true, true, true, true, true, true, true, true, true, true, true, true, true, true, true, true, true] rfl rfl (any_of HT_.out t1_) (fun _ _ _ h => h) (Or.inl ⟨by rfl, ?_⟩) ?_ ?_
                      rotate_left
                      ·
                       intro w'
                       go_simp
                       with_reducible rfl
                      rotate_left
                      ·
                       simp only [Act.put, List.setIfInBounds_toArray, List.set_cons_zero, List.set_cons_succ, i64_w, i32_w]
                       rfl
                      refine done_ (done_of HT_.out t1_) ?_
                      have hcz136_0 : w134.cell? ⟨gb132, 0, none⟩ = some (.int .i64 ((rd_T43 t128 x87_3).f0)) := c_ BK132.out 0; have hcz136_1 : w134.cell? ⟨gb132, 1, none⟩ = some (.int .i64 ((rd_T43 t128 x87_3).f1)) := c_ BK132.out 1; have hfz136_0 := blk_frozen BK132.out 0; have hfz136_1 := blk_frozen BK132.out 1
                      try go_wp2_with (first | ((with_reducible refine gate_callee (f := 36) rfl ?_); refine goesL_ (some 127) rfl rfl Try.func36 t1_ rfl #[.agg #[.int .i64 ((rd_T43 t128 x87_3).f0), .int .i64 ((rd_T43 t128 x87_3).f1)]] rfl (by (try simp only [m1_, m2_, m3_]); first | done | rfl) ?_; (with_reducible refine (impl_Dart_score.calls ((rd_T43 t128 x87_3).f0) ((rd_T43 t128 x87_3).f1) t141 _ A124.out).mono ?_); rintro e w137 ⟨rfl, hb⟩; refine ⟨_, rfl, ?_⟩; have n0_ := a_ (Kd.R_below (R_ HO_3.out) hb); have n1_ := a_ (Kd.R_below (R_ HO_7.out) hb); have n2_ := a_ (Kd.R_below (R_ HO_85.out) hb); have n3_ := bb_ BK132 hb; have n4_ := a_ (below_step (L_ HB.out GE132.out GE132.out GE132.out) hb); clear HO_3; clear HO_7; clear HO_85; clear BK132; clear HB; have HO_3 := n0_; have HO_7 := n1_; have HO_85 := n2_; have BK132 := n3_; have HB := n4_; clear n0_ n1_ n2_ n3_ n4_; (try clear hb); (try clear hb2); (try clear hk); (try clear hi); have p142 : 0 ≤ ((ji125) : Int) := of_decide_eq_true t0_; have q142 : (ji125) < (x3_1.length : Int) := of_decide_eq_true t0_; obtain ⟨ad142, e142, hx142_0⟩ := Kd.at_int (Kd.R_reads' HO_3.out).2.2 (ji125) p142 q142; obtain rfl : ad139 = ad142 := (by injection e142); replace p142 := eq_true p142; replace q142 := eq_true q142; have p128 : 0 ≤ (x79_2 : Int) := of_decide_eq_true t0_; have q128 : (x79_2 : Int) < ((x7_3.length : Int) : Int) := of_decide_eq_true t0_; obtain ⟨hx128_0, hf128_0⟩ := Kd.R_celln 0 HO_7.out (x79_2 : Int) p128 q128; replace p128 := eq_true p128; replace q128 := eq_true q128; obtain ⟨hy138_, hz138_⟩ := Kd.R_celln 0 HO_7.out (x79_2 : Int) (of_decide_eq_true t0_) (of_decide_eq_true t0_); have HP138 := Kd.R_putg HO_7.out (x79_2 : Int) (wrap64 ((rd x3_1 (ji125)) + 1))) | ((with_reducible refine gate_store (t := 3) (p := 132) rfl ?_); refine store_event (t := 3) (p := 132) (v := ?vo_w139) (w1 := (w137.setCell ⟨go89, (x79_2 : Int).toNat, none⟩ (.int .i64 (wrap64 ((rd x3_1 (ji125)) + 1))))) ?hg ?ho ?hn ?hr ?_; (case ho => rfl); (case hg => rfl); (case hn => rfl); (case hr => first | (go_simp; done) | (go_simp; rfl)); intro w139 hw; have hg : w137.grownBy w139 (some go89) := (by rw [hw]; exact HP138.2); have hp_ : Kd.R (Kd.int .i64) 3 w139 w.heap.size (fun k_ => some k_ ≠ (.slice (some ad139) x3_1.length co135 : Value).ownBlock) (.slice (some ⟨go89, 0, none⟩) x7_3.length co85) y143 := (by rw [hw, Ny143.out]; exact HP138.1); clear HP138; have n0_ := a_ (Kd.R_after (v := (.slice (some ⟨go89, 0, none⟩) x7_3.length co85)) (v1 := (.slice (some ⟨go89, 0, none⟩) x7_3.length co85)) (ok := (fun _ => True)) t44_ hg (.inl rfl)); have n1_ := a_ (hp_); have n2_ := a_ (Kd.R_over' (v := (.slice (some ⟨go89, 0, none⟩) x7_3.length co85)) (R_ HO_85.out) (Kd.R_typed HO_7.out) t29_ hg); have n3_ := a_ (blk_grown (B_ BK132.out) hg (Kd.R_ne HO_7.out BK132.out t29_)); have n4_ := a_ ((by rw [hw]; exact below_set (HB.out) GB89.out : Below w.heap.size w w139)); clear HO_3; clear HO_7; clear HO_85; clear BK132; clear HB; have HO_3 := n0_; have HO_7 := n1_; have HO_85 := n2_; have BK132 := n3_; have HB := n4_; clear n0_ n1_ n2_ n3_ n4_; clear hg hw hp_))
                      (try simp only [← hl7_3])
                      go_roundg k3
                      case measure => have := HK1.out; have := HK2.out; have := HK3.out; omega
                      case rel => exact ⟨(y143), (wrap64 (x87_3 + 1)), t2_, H', ⟨t49_⟩, ⟨t47_⟩, ⟨t27_⟩, ⟨t26_⟩, ⟨L_ HB.out GE132.out GE132.out GE132.out⟩⟩
                     ·
                      rw [if_neg c127] at H
                      exact absurd H t31_
                    ·
                     rw [if_neg c126] at H
                     exact absurd H t31_
                   ·
                    rw [if_neg c123] at H; have c123b0 : decide ((wrap64 ((rd x3_1 (ji120)) + 1)) < (rd x7_3 x79_2)) = false := decide_eq_false c123; clear c123; have H' := a_ H; clear H; have p131 : 0 ≤ (x87_3 : Int) := of_decide_eq_true t0_; have q131 : x87_3 < (t128.length : Int) := of_decide_eq_true t0_; obtain ⟨ad131, e131, hx131_0, hx131_1⟩ := at_T43 (Kd.R_reads' HO_85.out).2.2 x87_3 p131 q131
                    cases e131
                    replace p131 := eq_true p131; replace q131 := eq_true q131
                    try go_wp2_with (first | ((with_reducible refine gate_dst (N := 10) rfl ?_); refine box_event ?hg (N := 10) ?hd (cs := #[.int .i64 0, .int .i64 0]) (t := 43) ?hr ?_; (case hd => rfl); (case hg => rfl); (case hr => first | (go_simp; done) | (go_simp; rfl)); intro gb132 hg w140 hbox hb; have n0_ := a_ (Kd.R_below (R_ HO_3.out) hb); have n1_ := a_ (Kd.R_below (R_ HO_7.out) hb); have n2_ := a_ (Kd.R_below (Kd.R_elderB (R_ HO_85.out) gb132 (Nat.le_of_eq hg.symm)) hb); have n3_ := a_ (below_step (L_ HB.out (Nat.le_refl _) (Nat.le_refl _) (Nat.le_refl _)) hb); have n4_ := a_ (hbox); have n5_ := a_ ((by rw [hg]; exact (below_size (L_ HB.out (Nat.le_refl _) (Nat.le_refl _) (Nat.le_refl _))) : w.heap.size ≤ gb132)); have n6_ := a_ ((by rw [hg]; exact (below_size (L_ HB.out (Nat.le_refl _) (Nat.le_refl _) (Nat.le_refl _))) : w.heap.size ≤ gb132)); clear HO_3; clear HO_7; clear HO_85; clear HB; have HO_3 := n0_; have HO_7 := n1_; have HO_85 := n2_; have HB := n3_; have BK132 := n4_; have GW132 := n5_; have GE132 := n6_; clear n0_ n1_ n2_ n3_ n4_ n5_ n6_; clear hb hbox hg; have hcz141_0 : w140.cell? ⟨gb132, 0, none⟩ = some (.int .i64 0) := c_ BK132.out 0; have hcz141_1 : w140.cell? ⟨gb132, 1, none⟩ = some (.int .i64 0) := c_ BK132.out 1; have hfz141_0 := blk_frozen BK132.out 0; have hfz141_1 := blk_frozen BK132.out 1))
                    have n0_ : Aside0 (Kd.R (Kd.int .i64) 3 ((w140.setCell ⟨gb132, 0, none⟩ (.int .i64 ((rd_T43 t128 x87_3).f0))).setCell ⟨gb132, 1, none⟩ (.int .i64 ((rd_T43 t128 x87_3).f1))) w.heap.size (fun k_ => some k_ ≠ (.slice (some ⟨go89, 0, none⟩) x7_3.length co85 : Value).ownBlock) aA x3_1) := ⟨t13_⟩; have n1_ : Aside0 (Kd.R (Kd.int .i64) 3 ((w140.setCell ⟨gb132, 0, none⟩ (.int .i64 ((rd_T43 t128 x87_3).f0))).setCell ⟨gb132, 1, none⟩ (.int .i64 ((rd_T43 t128 x87_3).f1))) w.heap.size (fun k_ => some k_ ≠ (aA : Value).ownBlock) (.slice (some ⟨go89, 0, none⟩) x7_3.length co85) x7_3) := ⟨t14_⟩; have n2_ : Aside0 (Kd.R k43 43 ((w140.setCell ⟨gb132, 0, none⟩ (.int .i64 ((rd_T43 t128 x87_3).f0))).setCell ⟨gb132, 1, none⟩ (.int .i64 ((rd_T43 t128 x87_3).f1))) w.heap.size (fun k_ => k_ ≠ gb132) (.slice (some ad131) t128.length co94) t128) := ⟨t8_⟩; have n3_ : Aside0 (((w140.setCell ⟨gb132, 0, none⟩ (.int .i64 ((rd_T43 t128 x87_3).f0))).setCell ⟨gb132, 1, none⟩ (.int .i64 ((rd_T43 t128 x87_3).f1))).heap[gb132]? = some (.cells #[.int .i64 ((rd_T43 t128 x87_3).f0), .int .i64 ((rd_T43 t128 x87_3).f1)] 43 (0, 0))) := ⟨t10_⟩; have n4_ : Aside0 (Below w.heap.size w ((w140.setCell ⟨gb132, 0, none⟩ (.int .i64 ((rd_T43 t128 x87_3).f0))).setCell ⟨gb132, 1, none⟩ (.int .i64 ((rd_T43 t128 x87_3).f1)))) := ⟨L_ HB.out GE132.out GE132.out GE132.out⟩
                    (try clear HO_3)
                    (try clear HO_7)
                    (try clear HO_85)
                    (try clear BK132)
                    (try clear HB)
                    generalize ((w140.setCell ⟨gb132, 0, none⟩ (.int .i64 ((rd_T43 t128 x87_3).f0))).setCell ⟨gb132, 1, none⟩ (.int .i64 ((rd_T43 t128 x87_3).f1))) = w142 at n0_ n1_ n2_ n3_ n4_ ⊢; have HO_3 := n0_; have HO_7 := n1_; have HO_85 := n2_; have BK132 := n3_; have HB := n4_; clear n0_ n1_ n2_ n3_ n4_; have n0_ := a_ (Kd.R_drew HO_3.out); have n1_ := a_ (Kd.R_drew HO_7.out); have n2_ := a_ (Kd.R_drew HO_85.out); have n3_ := a_ (blk_drew BK132.out); have n4_ := a_ (below_drew1 HB.out); clear HO_3; clear HO_7; clear HO_85; clear BK132; clear HB; have HO_3 := n0_; have HO_7 := n1_; have HO_85 := n2_; have BK132 := n3_; have HB := n4_; clear n0_ n1_ n2_ n3_ n4_; have p134 : 0 ≤ (x79_2 : Int) := of_decide_eq_true t0_; have q134 : x79_2 < (x7_3.length : Int) := of_decide_eq_true t0_; obtain ⟨ad134, e134, hx134_0⟩ := Kd.at_int (Kd.R_reads' HO_7.out).2.2 x79_2 p134 q134; obtain rfl : (⟨go89, 0, none⟩ : Addr) = ad134 := (by injection e134)
                    (first | simp only [add_plain] at hx134_0 | simp only [add_at] at hx134_0 | simp only [Addr.add, Nat.zero_add] at hx134_0 | skip)
                    replace p134 := eq_true p134; replace q134 := eq_true q134; have p139 : 0 ≤ ((ji120) : Int) := of_decide_eq_true t0_; have q139 : (ji120) < (x3_1.length : Int) := of_decide_eq_true t0_; obtain ⟨Ao139, co139, eo139⟩ := Kd.R_slice HO_3.out; subst eo139; obtain ⟨ad139, e139, hx139_0⟩ := Kd.at_int (Kd.R_reads' HO_3.out).2.2 (ji120) p139 q139
                    cases e139
                    replace p139 := eq_true p139; replace q139 := eq_true q139; have p140 : 0 ≤ (x79_2 : Int) := of_decide_eq_true t0_; have q140 : x79_2 < (x7_3.length : Int) := of_decide_eq_true t0_; obtain ⟨ad140, e140, hx140_0⟩ := Kd.at_int (Kd.R_reads' HO_7.out).2.2 x79_2 p140 q140; obtain rfl : (⟨go89, 0, none⟩ : Addr) = ad140 := (by injection e140)
                    (first | simp only [add_plain] at hx140_0 | simp only [add_at] at hx140_0 | simp only [Addr.add, Nat.zero_add] at hx140_0 | skip)
                    replace p140 := eq_true p140; replace q140 := eq_true q140
                    refine start_ (n := 31) (S := fun w' => w'.cell? ⟨gb132, 0, none⟩ = some (.int .i64 ((rd_T43 t128 x87_3).f0)) ∧ w'.cell? ⟨gb132, 1, none⟩ = some (.int .i64 ((rd_T43 t128 x87_3).f1)) ∧ w'.cell? ⟨go89, (x79_2).toNat, none⟩ = some (.int .i64 (rd x7_3 x79_2)) ∧ w'.cell? (ad139.add ((ji120)).toNat) = some (.int .i64 (rd x3_1 (ji120))) ∧ w'.cell? ⟨go89, (x79_2).toNat, none⟩ = some (.int .i64 (rd x7_3 x79_2))) (ds := []) #[false, false, false, false, false, false, false, false, false, false, false, false, false, false, false, false, false, false, false, false, false, false, false, false, false, false, false, false, false, false, false] t1_ rfl rfl ⟨c_ BK132.out 0, c_ BK132.out 1, hx134_0, hx139_0, hx140_0⟩ (fun hHeld => ?_); refine with_tabW fewP.tab22 fewP.bits22 (fun HT_ HW_ => ?_)
                    generalize w142.drew = w143 at HO_3 HO_7 HO_85 BK132 HB hx134_0 hx139_0 hx140_0 hHeld ⊢
                    refine pure_ (i := 0) (N := some 91) (v := ?_) (a' := ?_) #[true, false, false, false, false, false, false, false, false, false, false, false, false, false, false, false, false, false, false, false, false, false, false, false, false, false, false, false, false, false, false] rfl rfl (any_of HT_.out t1_) (fun _ _ _ h => h) (Or.inl ⟨by rfl, ?_⟩) ?_ ?_
                    rotate_left
                    ·
                     intro w'
                     go_simp
                     with_reducible rfl
                    rotate_left
                    ·
                     simp only [Act.put, List.setIfInBounds_toArray, List.set_cons_zero, List.set_cons_succ, i64_w, i32_w]
                     rfl
                    refine take_ (i := 1) (N := some 92) (v := ?_) (a' := ?_) #[true, true, false, false, false, false, false, false, false, false, false, false, false, false, false, false, false, false, false, false, false, false, false, false, false, false, false, false, false, false, false] rfl rfl (take_ofW HT_.out HW_.out t1_) (fun _ _ _ h => h) (Or.inl ⟨by rfl, ?_⟩) hHeld ?_ ?_
                    rotate_left
                    ·
                     rintro w' ⟨s0, s1, s2, s3, s4⟩
                     go_simp
                     with_reducible rfl
                    rotate_left
                    ·
                     simp only [Act.put, List.setIfInBounds_toArray, List.set_cons_zero, List.set_cons_succ, i64_w, i32_w]
                     rfl
                    refine pure_ (i := 2) (N := some 93) (v := ?_) (a' := ?_) #[true, true, true, false, false, false, false, false, false, false, false, false, false, false, false, false, false, false, false, false, false, false, false, false, false, false, false, false, false, false, false] rfl rfl (any_of HT_.out t1_) (fun _ _ _ h => h) (Or.inl ⟨by rfl, ?_⟩) ?_ ?_
                    rotate_left
                    ·
                     intro w'
                     go_simp
                     with_reducible rfl
                    rotate_left
                    ·
                     simp only [Act.put, List.setIfInBounds_toArray, List.set_cons_zero, List.set_cons_succ, i64_w, i32_w]
                     rfl
                    refine pure_ (i := 3) (N := some 94) (v := ?_) (a' := ?_) #[true, true, true, true, false, false, false, false, false, false, false, false, false, false, false, false, false, false, false, false, false, false, false, false, false, false, false, false, false, false, false] rfl rfl (any_of HT_.out t1_) (fun _ _ _ h => h) (Or.inl ⟨by rfl, ?_⟩) ?_ ?_
                    rotate_left
                    ·
                     intro w'
                     go_simp
                     with_reducible rfl
                    rotate_left
                    ·
                     simp only [Act.put, List.setIfInBounds_toArray, List.set_cons_zero, List.set_cons_succ, i64_w, i32_w]
                     rfl
                    refine pure_ (i := 6) (N := some 97) (v := ?_) (a' := ?_) #[true, true, true, true, false, false, true, false, false, false, false, false, false, false, false, false, false, false, false, false, false, false, false, false, false, false, false, false, false, false, false] rfl rfl (any_of HT_.out t1_) (fun _ _ _ h => h) (Or.inl ⟨by rfl, ?_⟩) ?_ ?_
                    rotate_left
                    ·
                     intro w'
                     go_simp
                     with_reducible rfl
                    rotate_left
                    ·
                     simp only [Act.put, List.setIfInBounds_toArray, List.set_cons_zero, List.set_cons_succ, i64_w, i32_w]
                     rfl
                    refine take_ (i := 4) (N := some 95) (v := ?_) (a' := ?_) #[true, true, true, true, true, false, true, false, false, false, false, false, false, false, false, false, false, false, false, false, false, false, false, false, false, false, false, false, false, false, false] rfl rfl (take_ofW HT_.out HW_.out t1_) (fun _ _ _ h => h) (Or.inl ⟨by rfl, ?_⟩) hHeld ?_ ?_
                    rotate_left
                    ·
                     rintro w' ⟨s0, s1, s2, s3, s4⟩
                     go_simp
                     with_reducible rfl
                    rotate_left
                    ·
                     simp only [Act.put, List.setIfInBounds_toArray, List.set_cons_zero, List.set_cons_succ, i64_w, i32_w]
                     rfl
                    refine one_ (i := 5) (N := some 96) #[true, true, true, true, true, true, true, false, false, false, false, false, false, false, false, false, false, false, false, false, false, false, false, false, false, false, false, false, false, false, false] rfl rfl (one_of HT_.out t1_) t29_ (fun K hK => ?_)
                    refine goes_ Try.func36 t1_ rfl #[.agg #[.int .i64 ((rd_T43 t128 x87_3).f0), .int .i64 ((rd_T43 t128 x87_3).f1)]] (by rfl) rfl rfl (by (try simp only [m1_, m2_, m3_]); first | done | rfl) ?_
                    with_reducible refine (impl_Dart_score.calls ((rd_T43 t128 x87_3).f0) ((rd_T43 t128 x87_3).f1) t133 _ A99.out).mono ?_
                    rintro e w144 ⟨rfl, hb⟩; have HS2_ := (hb.cell (World.block_lt_of_cell? _ _ (hHeld.2.2.1))).trans (hHeld.2.2.1); have HS3_ := (hb.cell (World.block_lt_of_cell? _ _ (hHeld.2.2.2.1))).trans (hHeld.2.2.2.1); have HS4_ := (hb.cell (World.block_lt_of_cell? _ _ (hHeld.2.2.2.2))).trans (hHeld.2.2.2.2)
                    refine ⟨_, rfl, ?_⟩
                    have n0_ := a_ (Kd.R_below (R_ HO_3.out) hb); have n1_ := a_ (Kd.R_below (R_ HO_7.out) hb); have n2_ := a_ (Kd.R_below (R_ HO_85.out) hb); have n3_ := bb_ BK132 hb; have n4_ := a_ (below_step (L_ HB.out GE132.out GE132.out GE132.out) hb); clear HO_3; clear HO_7; clear HO_85; clear BK132; clear HB; have HO_3 := n0_; have HO_7 := n1_; have HO_85 := n2_; have BK132 := n3_; have HB := n4_; clear n0_ n1_ n2_ n3_ n4_
                    (try clear hb)
                    (try clear hb2)
                    (try clear hk)
                    (try clear hi)
                    refine hK.out _ _ ⟨c_ BK132.out 0, c_ BK132.out 1, HS2_, HS3_, HS4_⟩ (fun hHeld => ?_)
                    clear hK K
                    refine norm_ (a' := ?_) ?_ ?_
                    rotate_left
                    ·
                     show Act.put _ (some 96) _ = _
                     simp only [Act.put, List.setIfInBounds_toArray, List.set_cons_zero, List.set_cons_succ, i64_w, i32_w]
                     rfl
                    refine pure_ (i := 7) (N := some 98) (v := ?_) (a' := ?_) #[true, true, true, true, true, true, true, true, false, false, false, false, false, false, false, false, false, false, false, false, false, false, false, false, false, false, false, false, false, false, false] rfl rfl (any_of HT_.out t1_) (fun _ _ _ h => h) (Or.inl ⟨by rfl, ?_⟩) ?_ ?_
                    rotate_left
                    ·
                     intro w'
                     go_simp
                     with_reducible rfl
                    rotate_left
                    ·
                     simp only [Act.put, List.setIfInBounds_toArray, List.set_cons_zero, List.set_cons_succ, i64_w, i32_w]
                     rfl
                    refine pure_ (i := 8) (N := some 99) (v := ?_) (a' := ?_) #[true, true, true, true, true, true, true, true, true, false, false, false, false, false, false, false, false, false, false, false, false, false, false, false, false, false, false, false, false, false, false] rfl rfl (any_of HT_.out t1_) (fun _ _ _ h => h) (Or.inl ⟨by rfl, ?_⟩) ?_ ?_
                    rotate_left
                    ·
                     intro w'
                     go_simp
                     with_reducible rfl
                    rotate_left
                    ·
                     simp only [Act.put, List.setIfInBounds_toArray, List.set_cons_zero, List.set_cons_succ, i64_w, i32_w]
                     rfl
                    refine pure_ (i := 9) (N := some 100) (v := ?_) (a' := ?_) #[true, true, true, true, true, true, true, true, true, true, false, false, false, false, false, false, false, false, false, false, false, false, false, false, false, false, false, false, false, false, false] rfl rfl (any_of HT_.out t1_) (fun _ _ _ h => h) (Or.inl ⟨by rfl, ?_⟩) ?_ ?_
                    rotate_left
                    ·
                     intro w'
                     go_simp
                     with_reducible rfl
                    rotate_left
                    ·
                     simp only [Act.put, List.setIfInBounds_toArray, List.set_cons_zero, List.set_cons_succ, i64_w, i32_w]
                     rfl
                    refine pure_ (i := 10) (N := some 101) (v := ?_) (a' := ?_) #[true, true, true, true, true, true, true, true, true, true, true, false, false, false, false, false, false, false, false, false, false, false, false, false, false, false, false, false, false, false, false] rfl rfl (any_of HT_.out t1_) (fun _ _ _ h => h) (Or.inl ⟨by rfl, ?_⟩) ?_ ?_
                    rotate_left
                    ·
                     intro w'
                     go_simp
                     with_reducible rfl
                    rotate_left
                    ·
                     simp only [Act.put, List.setIfInBounds_toArray, List.set_cons_zero, List.set_cons_succ, i64_w, i32_w]
                     rfl
                    refine pure_ (i := 11) (N := some 102) (v := ?_) (a' := ?_) #[true, true, true, true, true, true, true, true, true, true, true, true, false, false, false, false, false, false, false, false, false, false, false, false, false, false, false, false, false, false, false] rfl rfl (any_of HT_.out t1_) (fun _ _ _ h => h) (Or.inl ⟨by rfl, ?_⟩) ?_ ?_
                    rotate_left
                    ·
                     intro w'
                     go_simp
                     with_reducible rfl
                    rotate_left
                    ·
                     simp only [Act.put, List.setIfInBounds_toArray, List.set_cons_zero, List.set_cons_succ, i64_w, i32_w]
                     rfl
                    refine pure_ (i := 12) (N := some 103) (v := ?_) (a' := ?_) #[true, true, true, true, true, true, true, true, true, true, true, true, true, false, false, false, false, false, false, false, false, false, false, false, false, false, false, false, false, false, false] rfl rfl (any_of HT_.out t1_) (fun _ _ _ h => h) (Or.inl ⟨by rfl, ?_⟩) ?_ ?_
                    rotate_left
                    ·
                     intro w'
                     go_simp
                     with_reducible rfl
                    rotate_left
                    ·
                     simp only [Act.put, List.setIfInBounds_toArray, List.set_cons_zero, List.set_cons_succ, i64_w, i32_w]
                     rfl
                    refine take_ (i := 13) (N := some 104) (v := ?_) (a' := ?_) #[true, true, true, true, true, true, true, true, true, true, true, true, true, true, false, false, false, false, false, false, false, false, false, false, false, false, false, false, false, false, false] rfl rfl (take_ofW HT_.out HW_.out t1_) (fun _ _ _ h => h) (Or.inl ⟨by rfl, ?_⟩) hHeld ?_ ?_
                    rotate_left
                    ·
                     rintro w' ⟨s0, s1, s2, s3, s4⟩
                     go_simp
                     with_reducible rfl
                    rotate_left
                    ·
                     simp only [Act.put, List.setIfInBounds_toArray, List.set_cons_zero, List.set_cons_succ, i64_w, i32_w]
                     rfl
                    refine pure_ (i := 14) (N := some 105) (v := ?_) (a' := ?_) #[true, true, true, true, true, true, true, true, true, true, true, true, true, true, true, false, false, false, false, false, false, false, false, false, false, false, false, false, false, false, false] rfl rfl (any_of HT_.out t1_) (fun _ _ _ h => h) (Or.inl ⟨by rfl, ?_⟩) ?_ ?_
                    rotate_left
                    ·
                     intro w'
                     go_simp
                     with_reducible rfl
                    rotate_left
                    ·
                     simp only [Act.put, List.setIfInBounds_toArray, List.set_cons_zero, List.set_cons_succ, i64_w, i32_w]
                     rfl
                    refine pure_ (i := 15) (N := some 106) (v := ?_) (a' := ?_) #[true, true, true, true, true, true, true, true, true, true, true, true, true, true, true, true, false, false, false, false, false, false, false, false, false, false, false, false, false, false, false] rfl rfl (any_of HT_.out t1_) (fun _ _ _ h => h) (Or.inl ⟨by rfl, ?_⟩) ?_ ?_
                    rotate_left
                    ·
                     intro w'
                     go_simp
                     with_reducible rfl
                    rotate_left
                    ·
                     simp only [Act.put, List.setIfInBounds_toArray, List.set_cons_zero, List.set_cons_succ, i64_w, i32_w]
                     rfl
                    refine pure_ (i := 16) (N := some 107) (v := ?_) (a' := ?_) #[true, true, true, true, true, true, true, true, true, true, true, true, true, true, true, true, true, false, false, false, false, false, false, false, false, false, false, false, false, false, false] rfl rfl (any_of HT_.out t1_) (fun _ _ _ h => h) (Or.inl ⟨by rfl, ?_⟩) ?_ ?_
                    rotate_left
                    ·
                     intro w'
                     go_simp
                     with_reducible rfl
                    rotate_left
                    ·
                     simp only [Act.put, List.setIfInBounds_toArray, List.set_cons_zero, List.set_cons_succ, i64_w, i32_w]
                     rfl
                    refine pure_ (i := 17) (N := some 108) (v := ?_) (a' := ?_) #[true, true, true, true, true, true, true, true, true, true, true, true, true, true, true, true, true, true, false, false, false, false, false, false, false, false, false, false, false, false, false] rfl rfl (any_of HT_.out t1_) (fun _ _ _ h => h) (Or.inl ⟨by rfl, ?_⟩) ?_ ?_
                    rotate_left
                    ·
                     intro w'
                     go_simp
                     with_reducible rfl
                    rotate_left
                    ·
                     simp only [Act.put, List.setIfInBounds_toArray, List.set_cons_zero, List.set_cons_succ, i64_w, i32_w]
                     rfl
                    refine pure_ (i := 24) (N := some 115) (v := ?_) (a' := ?_) #[true, true, true, true, true, true, true, true, true, true, true, true, true, true, true, true, true, true, false, false, false, false, false, false, true, false, false, false, false, false, false] rfl rfl (any_of HT_.out t1_) (fun _ _ _ h => h) (Or.inl ⟨by rfl, ?_⟩) ?_ ?_
                    rotate_left
                    ·
                     intro w'
                     go_simp
                     with_reducible rfl
                    rotate_left
                    ·
                     simp only [Act.put, List.setIfInBounds_toArray, List.set_cons_zero, List.set_cons_succ, i64_w, i32_w]
                     rfl
                    refine pure_ (i := 25) (N := some 116) (v := ?_) (a' := ?_) #[true, true, true, true, true, true, true, true, true, true, true, true, true, true, true, true, true, true, false, false, false, false, false, false, true, true, false, false, false, false, false] rfl rfl (any_of HT_.out t1_) (fun _ _ _ h => h) (Or.inl ⟨by rfl, ?_⟩) ?_ ?_
                    rotate_left
                    ·
                     intro w'
                     go_simp
                     with_reducible rfl
                    rotate_left
                    ·
                     simp only [Act.put, List.setIfInBounds_toArray, List.set_cons_zero, List.set_cons_succ, i64_w, i32_w]
                     rfl
                    refine pure_ (i := 26) (N := some 117) (v := ?_) (a' := ?_) #[true, true, true, true, true, true, true, true, true, true, true, true, true, true, true, true, true, true, false, false, false, false, false, false, true, true, true, false, false, false, false] rfl rfl (any_of HT_.out t1_) (fun _ _ _ h => h) (Or.inl ⟨by rfl, ?_⟩) ?_ ?_
                    rotate_left
                    ·
                     intro w'
                     go_simp
                     with_reducible rfl
                    rotate_left
                    ·
                     simp only [Act.put, List.setIfInBounds_toArray, List.set_cons_zero, List.set_cons_succ, i64_w, i32_w]
                     rfl
                    refine take_ (i := 18) (N := some 109) (v := ?_) (a' := ?_) #[true, true, true, true, true, true, true, true, true, true, true, true, true, true, true, true, true, true, true, false, false, false, false, false, true, true, true, false, false, false, false] rfl rfl (take_ofW HT_.out HW_.out t1_) (fun _ _ _ h => h) (Or.inl ⟨by rfl, ?_⟩) hHeld ?_ ?_
                    rotate_left
                    ·
                     rintro w' ⟨s0, s1, s2, s3, s4⟩
                     go_simp
                     with_reducible rfl
                    rotate_left
                    ·
                     simp only [Act.put, List.setIfInBounds_toArray, List.set_cons_zero, List.set_cons_succ, i64_w, i32_w]
                     rfl
                    refine take_ (i := 27) (N := some 118) (v := ?_) (a' := ?_) #[true, true, true, true, true, true, true, true, true, true, true, true, true, true, true, true, true, true, true, false, false, false, false, false, true, true, true, true, false, false, false] rfl rfl (take_ofW HT_.out HW_.out t1_) (fun _ _ _ h => h) (Or.inl ⟨by rfl, ?_⟩) hHeld ?_ ?_
                    rotate_left
                    ·
                     rintro w' ⟨s0, s1, s2, s3, s4⟩
                     go_simp
                     with_reducible rfl
                    rotate_left
                    ·
                     simp only [Act.put, List.setIfInBounds_toArray, List.set_cons_zero, List.set_cons_succ, i64_w, i32_w]
                     rfl
                    refine one_ (i := 19) (N := some 110) #[true, true, true, true, true, true, true, true, true, true, true, true, true, true, true, true, true, true, true, true, false, false, false, false, true, true, true, true, false, false, false] rfl rfl (one_of HT_.out t1_) t29_ (fun K hK => ?_)
                    refine goes_ Try.func36 t1_ rfl #[.agg #[.int .i64 ((rd_T43 t128 x87_3).f0), .int .i64 ((rd_T43 t128 x87_3).f1)]] (by rfl) rfl rfl (by (try simp only [m1_, m2_, m3_]); first | done | rfl) ?_
                    with_reducible refine (impl_Dart_score.calls ((rd_T43 t128 x87_3).f0) ((rd_T43 t128 x87_3).f1) t138 _ A119.out).mono ?_
                    rintro e w145 ⟨rfl, hb⟩; have HS2_ := (hb.cell (World.block_lt_of_cell? _ _ (hHeld.2.2.1))).trans (hHeld.2.2.1); have HS3_ := (hb.cell (World.block_lt_of_cell? _ _ (hHeld.2.2.2.1))).trans (hHeld.2.2.2.1); have HS4_ := (hb.cell (World.block_lt_of_cell? _ _ (hHeld.2.2.2.2))).trans (hHeld.2.2.2.2)
                    refine ⟨_, rfl, ?_⟩
                    have n0_ := a_ (Kd.R_below (R_ HO_3.out) hb); have n1_ := a_ (Kd.R_below (R_ HO_7.out) hb); have n2_ := a_ (Kd.R_below (R_ HO_85.out) hb); have n3_ := bb_ BK132 hb; have n4_ := a_ (below_step (L_ HB.out GE132.out GE132.out GE132.out) hb); clear HO_3; clear HO_7; clear HO_85; clear BK132; clear HB; have HO_3 := n0_; have HO_7 := n1_; have HO_85 := n2_; have BK132 := n3_; have HB := n4_; clear n0_ n1_ n2_ n3_ n4_
                    (try clear hb)
                    (try clear hb2)
                    (try clear hk)
                    (try clear hi)
                    obtain ⟨Ao146, co146, eo146⟩ := Kd.R_slice HO_3.out
                    (first | subst eo146 | (injection eo146 with f1_ f2_ f3_; have f4_ := f1_.symm; have f5_ := f3_.symm; clear f1_ f2_ f3_; subst f4_; subst f5_))
                    refine hK.out _ _ ⟨c_ BK132.out 0, c_ BK132.out 1, HS2_, HS3_, HS4_⟩ (fun hHeld => ?_)
                    clear hK K
                    refine norm_ (a' := ?_) ?_ ?_
                    rotate_left
                    ·
                     show Act.put _ (some 110) _ = _
                     simp only [Act.put, List.setIfInBounds_toArray, List.set_cons_zero, List.set_cons_succ, i64_w, i32_w]
                     rfl
                    refine pure_ (i := 20) (N := some 111) (v := ?_) (a' := ?_) #[true, true, true, true, true, true, true, true, true, true, true, true, true, true, true, true, true, true, true, true, true, false, false, false, true, true, true, true, false, false, false] rfl rfl (any_of HT_.out t1_) (fun _ _ _ h => h) (Or.inl ⟨by rfl, ?_⟩) ?_ ?_
                    rotate_left
                    ·
                     intro w'
                     go_simp
                     with_reducible rfl
                    rotate_left
                    ·
                     simp only [Act.put, List.setIfInBounds_toArray, List.set_cons_zero, List.set_cons_succ, i64_w, i32_w]
                     rfl
                    refine pure_ (i := 21) (N := some 112) (v := ?_) (a' := ?_) #[true, true, true, true, true, true, true, true, true, true, true, true, true, true, true, true, true, true, true, true, true, true, false, false, true, true, true, true, false, false, false] rfl rfl (any_of HT_.out t1_) (fun _ _ _ h => h) (Or.inl ⟨by rfl, ?_⟩) ?_ ?_
                    rotate_left
                    ·
                     intro w'
                     go_simp
                     with_reducible rfl
                    rotate_left
                    ·
                     simp only [Act.put, List.setIfInBounds_toArray, List.set_cons_zero, List.set_cons_succ, i64_w, i32_w]
                     rfl
                    refine take_ (i := 22) (N := some 113) (v := ?_) (a' := ?_) #[true, true, true, true, true, true, true, true, true, true, true, true, true, true, true, true, true, true, true, true, true, true, true, false, true, true, true, true, false, false, false] rfl rfl (take_ofW HT_.out HW_.out t1_) (fun _ _ _ h => h) (Or.inl ⟨by rfl, ?_⟩) hHeld ?_ ?_
                    rotate_left
                    ·
                     rintro w' ⟨s0, s1, s2, s3, s4⟩
                     go_simp
                     with_reducible rfl
                    rotate_left
                    ·
                     simp only [Act.put, List.setIfInBounds_toArray, List.set_cons_zero, List.set_cons_succ, i64_w, i32_w]
                     rfl
                    refine pure_ (i := 23) (N := some 114) (v := ?_) (a' := ?_) #[true, true, true, true, true, true, true, true, true, true, true, true, true, true, true, true, true, true, true, true, true, true, true, true, true, true, true, true, false, false, false] rfl rfl (any_of HT_.out t1_) (fun _ _ _ h => h) (Or.inl ⟨by rfl, ?_⟩) ?_ ?_
                    rotate_left
                    ·
                     intro w'
                     go_simp
                     with_reducible rfl
                    rotate_left
                    ·
                     simp only [Act.put, List.setIfInBounds_toArray, List.set_cons_zero, List.set_cons_succ, i64_w, i32_w]
                     rfl
                    refine pure_ (i := 28) (N := some 119) (v := ?_) (a' := ?_) #[true, true, true, true, true, true, true, true, true, true, true, true, true, true, true, true, true, true, true, true, true, true, true, true, true, true, true, true, true, false, false] rfl rfl (any_of HT_.out t1_) (fun _ _ _ h => h) (Or.inl ⟨by rfl, ?_⟩) ?_ ?_
                    rotate_left
                    ·
                     intro w'
                     go_simp
                     with_reducible rfl
                    rotate_left
                    ·
                     simp only [Act.put, List.setIfInBounds_toArray, List.set_cons_zero, List.set_cons_succ, i64_w, i32_w]
                     rfl
                    refine pure_ (i := 29) (N := some 120) (v := ?_) (a' := ?_) #[true, true, true, true, true, true, true, true, true, true, true, true, true, true, true, true, true, true, true, true, true, true, true, true, true, true, true, true, true, true, false] rfl rfl (any_of HT_.out t1_) (fun _ _ _ h => h) (Or.inl ⟨by rfl, ?_⟩) ?_ ?_
                    rotate_left
                    ·
                     intro w'
                     go_simp
                     with_reducible rfl
                    rotate_left
                    ·
                     simp only [Act.put, List.setIfInBounds_toArray, List.set_cons_zero, List.set_cons_succ, i64_w, i32_w]
                     rfl
                    refine pure_ (i := 30) (N := some 121) (v := ?_) (a' := ?_) #[true, true, true, true, true, true, true, true, true, true, true, true, true, true, true, true, true, true, true, true, true, true, true, true, true, true, true, true, true, true, true] rfl rfl (any_of HT_.out t1_) (fun _ _ _ h => h) (Or.inl ⟨by rfl, ?_⟩) ?_ ?_
                    rotate_left
                    ·
                     intro w'
                     go_simp
                     with_reducible rfl
                    rotate_left
                    ·
                     simp only [Act.put, List.setIfInBounds_toArray, List.set_cons_zero, List.set_cons_succ, i64_w, i32_w]
                     rfl
                    refine done_ (done_of HT_.out t1_) ?_
                    try go_wp2
                    (try simp only [← hl7_3])
                    go_roundg k3
                    case measure => have := HK1.out; have := HK2.out; have := HK3.out; omega
                    case rel => exact ⟨(x7_3), (wrap64 (x87_3 + 1)), t2_, H', ⟨t49_⟩, ⟨t37_⟩, ⟨t27_⟩, ⟨t26_⟩, ⟨L_ HB.out GE132.out GE132.out GE132.out⟩⟩
                  ·
                   rw [if_neg c122] at H
                   exact absurd H t31_
                 ·
                  rw [if_neg c121] at H
                  exact absurd H t31_
               ·
                rw [if_neg c102] at H
                exact absurd H t31_
              ·
               rw [if_neg c101] at H
               exact absurd H t31_
             ·
              rw [if_neg c100] at H; have c100b0 : decide (t133 ≤ x79_2) = false := decide_eq_false c100; clear c100; have H' := a_ H; clear H; have p131 : 0 ≤ (x87_3 : Int) := of_decide_eq_true t0_; have q131 : x87_3 < (t128.length : Int) := of_decide_eq_true t0_; obtain ⟨ad131, e131, hx131_0, hx131_1⟩ := at_T43 (Kd.R_reads' HO_85.out).2.2 x87_3 p131 q131
              cases e131
              replace p131 := eq_true p131; replace q131 := eq_true q131
              try go_wp2_with (first | ((with_reducible refine gate_dst (N := 10) rfl ?_); refine box_event ?hg (N := 10) ?hd (cs := #[.int .i64 0, .int .i64 0]) (t := 43) ?hr ?_; (case hd => rfl); (case hg => rfl); (case hr => first | (go_simp; done) | (go_simp; rfl)); intro gb132 hg w147 hbox hb; have n0_ := a_ (Kd.R_below (R_ HO_3.out) hb); have n1_ := a_ (Kd.R_below (R_ HO_7.out) hb); have n2_ := a_ (Kd.R_below (Kd.R_elderB (R_ HO_85.out) gb132 (Nat.le_of_eq hg.symm)) hb); have n3_ := a_ (below_step (L_ HB.out (Nat.le_refl _) (Nat.le_refl _) (Nat.le_refl _)) hb); have n4_ := a_ (hbox); have n5_ := a_ ((by rw [hg]; exact (below_size (L_ HB.out (Nat.le_refl _) (Nat.le_refl _) (Nat.le_refl _))) : w.heap.size ≤ gb132)); have n6_ := a_ ((by rw [hg]; exact (below_size (L_ HB.out (Nat.le_refl _) (Nat.le_refl _) (Nat.le_refl _))) : w.heap.size ≤ gb132)); clear HO_3; clear HO_7; clear HO_85; clear HB; have HO_3 := n0_; have HO_7 := n1_; have HO_85 := n2_; have HB := n3_; have BK132 := n4_; have GW132 := n5_; have GE132 := n6_; clear n0_ n1_ n2_ n3_ n4_ n5_ n6_; clear hb hbox hg; have hcz148_0 : w147.cell? ⟨gb132, 0, none⟩ = some (.int .i64 0) := c_ BK132.out 0; have hcz148_1 : w147.cell? ⟨gb132, 1, none⟩ = some (.int .i64 0) := c_ BK132.out 1; have hfz148_0 := blk_frozen BK132.out 0; have hfz148_1 := blk_frozen BK132.out 1))
              have n0_ : Aside0 (Kd.R (Kd.int .i64) 3 ((w147.setCell ⟨gb132, 0, none⟩ (.int .i64 ((rd_T43 t128 x87_3).f0))).setCell ⟨gb132, 1, none⟩ (.int .i64 ((rd_T43 t128 x87_3).f1))) w.heap.size (fun k_ => some k_ ≠ (.slice (some ⟨go89, 0, none⟩) x7_3.length co85 : Value).ownBlock) aA x3_1) := ⟨t13_⟩; have n1_ : Aside0 (Kd.R (Kd.int .i64) 3 ((w147.setCell ⟨gb132, 0, none⟩ (.int .i64 ((rd_T43 t128 x87_3).f0))).setCell ⟨gb132, 1, none⟩ (.int .i64 ((rd_T43 t128 x87_3).f1))) w.heap.size (fun k_ => some k_ ≠ (aA : Value).ownBlock) (.slice (some ⟨go89, 0, none⟩) x7_3.length co85) x7_3) := ⟨t14_⟩; have n2_ : Aside0 (Kd.R k43 43 ((w147.setCell ⟨gb132, 0, none⟩ (.int .i64 ((rd_T43 t128 x87_3).f0))).setCell ⟨gb132, 1, none⟩ (.int .i64 ((rd_T43 t128 x87_3).f1))) w.heap.size (fun k_ => k_ ≠ gb132) (.slice (some ad131) t128.length co94) t128) := ⟨t8_⟩; have n3_ : Aside0 (((w147.setCell ⟨gb132, 0, none⟩ (.int .i64 ((rd_T43 t128 x87_3).f0))).setCell ⟨gb132, 1, none⟩ (.int .i64 ((rd_T43 t128 x87_3).f1))).heap[gb132]? = some (.cells #[.int .i64 ((rd_T43 t128 x87_3).f0), .int .i64 ((rd_T43 t128 x87_3).f1)] 43 (0, 0))) := ⟨t10_⟩; have n4_ : Aside0 (Below w.heap.size w ((w147.setCell ⟨gb132, 0, none⟩ (.int .i64 ((rd_T43 t128 x87_3).f0))).setCell ⟨gb132, 1, none⟩ (.int .i64 ((rd_T43 t128 x87_3).f1)))) := ⟨L_ HB.out GE132.out GE132.out GE132.out⟩
              (try clear HO_3)
              (try clear HO_7)
              (try clear HO_85)
              (try clear BK132)
              (try clear HB)
              generalize ((w147.setCell ⟨gb132, 0, none⟩ (.int .i64 ((rd_T43 t128 x87_3).f0))).setCell ⟨gb132, 1, none⟩ (.int .i64 ((rd_T43 t128 x87_3).f1))) = w149 at n0_ n1_ n2_ n3_ n4_ ⊢; have HO_3 := n0_; have HO_7 := n1_; have HO_85 := n2_; have BK132 := n3_; have HB := n4_; clear n0_ n1_ n2_ n3_ n4_; have n0_ := a_ (Kd.R_drew HO_3.out); have n1_ := a_ (Kd.R_drew HO_7.out); have n2_ := a_ (Kd.R_drew HO_85.out); have n3_ := a_ (blk_drew BK132.out); have n4_ := a_ (below_drew1 HB.out); clear HO_3; clear HO_7; clear HO_85; clear BK132; clear HB; have HO_3 := n0_; have HO_7 := n1_; have HO_85 := n2_; have BK132 := n3_; have HB := n4_; clear n0_ n1_ n2_ n3_ n4_
              refine start_ (n := 31) (S := fun w' => w'.cell? ⟨gb132, 0, none⟩ = some (.int .i64 ((rd_T43 t128 x87_3).f0)) ∧ w'.cell? ⟨gb132, 1, none⟩ = some (.int .i64 ((rd_T43 t128 x87_3).f1))) (ds := []) #[false, false, false, false, false, false, false, false, false, false, false, false, false, false, false, false, false, false, false, false, false, false, false, false, false, false, false, false, false, false, false] t1_ rfl rfl ⟨c_ BK132.out 0, c_ BK132.out 1⟩ (fun hHeld => ?_); refine with_tabW fewP.tab22 fewP.bits22 (fun HT_ HW_ => ?_)
              generalize w149.drew = w150 at HO_3 HO_7 HO_85 BK132 HB hHeld ⊢
              refine pure_ (i := 0) (N := some 91) (v := ?_) (a' := ?_) #[true, false, false, false, false, false, false, false, false, false, false, false, false, false, false, false, false, false, false, false, false, false, false, false, false, false, false, false, false, false, false] rfl rfl (any_of HT_.out t1_) (fun _ _ _ h => h) (Or.inl ⟨by rfl, ?_⟩) ?_ ?_
              rotate_left
              ·
               intro w'
               go_simp
               with_reducible rfl
              rotate_left
              ·
               simp only [Act.put, List.setIfInBounds_toArray, List.set_cons_zero, List.set_cons_succ, i64_w, i32_w]
               rfl
              refine take_ (i := 1) (N := some 92) (v := ?_) (a' := ?_) #[true, true, false, false, false, false, false, false, false, false, false, false, false, false, false, false, false, false, false, false, false, false, false, false, false, false, false, false, false, false, false] rfl rfl (take_ofW HT_.out HW_.out t1_) (fun _ _ _ h => h) (Or.inl ⟨by rfl, ?_⟩) hHeld ?_ ?_
              rotate_left
              ·
               rintro w' ⟨s0, s1⟩
               go_simp
               with_reducible rfl
              rotate_left
              ·
               simp only [Act.put, List.setIfInBounds_toArray, List.set_cons_zero, List.set_cons_succ, i64_w, i32_w]
               rfl
              refine pure_ (i := 2) (N := some 93) (v := ?_) (a' := ?_) #[true, true, true, false, false, false, false, false, false, false, false, false, false, false, false, false, false, false, false, false, false, false, false, false, false, false, false, false, false, false, false] rfl rfl (any_of HT_.out t1_) (fun _ _ _ h => h) (Or.inl ⟨by rfl, ?_⟩) ?_ ?_
              rotate_left
              ·
               intro w'
               go_simp
               with_reducible rfl
              rotate_left
              ·
               simp only [Act.put, List.setIfInBounds_toArray, List.set_cons_zero, List.set_cons_succ, i64_w, i32_w]
               rfl
              refine pure_ (i := 3) (N := some 94) (v := ?_) (a' := ?_) #[true, true, true, true, false, false, false, false, false, false, false, false, false, false, false, false, false, false, false, false, false, false, false, false, false, false, false, false, false, false, false] rfl rfl (any_of HT_.out t1_) (fun _ _ _ h => h) (Or.inl ⟨by rfl, ?_⟩) ?_ ?_
              rotate_left
              ·
               intro w'
               go_simp
               with_reducible rfl
              rotate_left
              ·
               simp only [Act.put, List.setIfInBounds_toArray, List.set_cons_zero, List.set_cons_succ, i64_w, i32_w]
               rfl
              refine pure_ (i := 6) (N := some 97) (v := ?_) (a' := ?_) #[true, true, true, true, false, false, true, false, false, false, false, false, false, false, false, false, false, false, false, false, false, false, false, false, false, false, false, false, false, false, false] rfl rfl (any_of HT_.out t1_) (fun _ _ _ h => h) (Or.inl ⟨by rfl, ?_⟩) ?_ ?_
              rotate_left
              ·
               intro w'
               go_simp
               with_reducible rfl
              rotate_left
              ·
               simp only [Act.put, List.setIfInBounds_toArray, List.set_cons_zero, List.set_cons_succ, i64_w, i32_w]
               rfl
              refine take_ (i := 4) (N := some 95) (v := ?_) (a' := ?_) #[true, true, true, true, true, false, true, false, false, false, false, false, false, false, false, false, false, false, false, false, false, false, false, false, false, false, false, false, false, false, false] rfl rfl (take_ofW HT_.out HW_.out t1_) (fun _ _ _ h => h) (Or.inl ⟨by rfl, ?_⟩) hHeld ?_ ?_
              rotate_left
              ·
               rintro w' ⟨s0, s1⟩
               go_simp
               with_reducible rfl
              rotate_left
              ·
               simp only [Act.put, List.setIfInBounds_toArray, List.set_cons_zero, List.set_cons_succ, i64_w, i32_w]
               rfl
              refine one_ (i := 5) (N := some 96) #[true, true, true, true, true, true, true, false, false, false, false, false, false, false, false, false, false, false, false, false, false, false, false, false, false, false, false, false, false, false, false] rfl rfl (one_of HT_.out t1_) t29_ (fun K hK => ?_)
              refine goes_ Try.func36 t1_ rfl #[.agg #[.int .i64 ((rd_T43 t128 x87_3).f0), .int .i64 ((rd_T43 t128 x87_3).f1)]] (by rfl) rfl rfl (by (try simp only [m1_, m2_, m3_]); first | done | rfl) ?_
              with_reducible refine (impl_Dart_score.calls ((rd_T43 t128 x87_3).f0) ((rd_T43 t128 x87_3).f1) t133 _ A99.out).mono ?_
              rintro e w151 ⟨rfl, hb⟩
              refine ⟨_, rfl, ?_⟩
              have n0_ := a_ (Kd.R_below (R_ HO_3.out) hb); have n1_ := a_ (Kd.R_below (R_ HO_7.out) hb); have n2_ := a_ (Kd.R_below (R_ HO_85.out) hb); have n3_ := bb_ BK132 hb; have n4_ := a_ (below_step (L_ HB.out GE132.out GE132.out GE132.out) hb); clear HO_3; clear HO_7; clear HO_85; clear BK132; clear HB; have HO_3 := n0_; have HO_7 := n1_; have HO_85 := n2_; have BK132 := n3_; have HB := n4_; clear n0_ n1_ n2_ n3_ n4_
              (try clear hb)
              (try clear hb2)
              (try clear hk)
              (try clear hi)
              refine hK.out _ _ ⟨c_ BK132.out 0, c_ BK132.out 1⟩ (fun hHeld => ?_)
              clear hK K
              refine norm_ (a' := ?_) ?_ ?_
              rotate_left
              ·
               show Act.put _ (some 96) _ = _
               simp only [Act.put, List.setIfInBounds_toArray, List.set_cons_zero, List.set_cons_succ, i64_w, i32_w]
               rfl
              refine pure_ (i := 7) (N := some 98) (v := ?_) (a' := ?_) #[true, true, true, true, true, true, true, true, false, false, false, false, false, false, false, false, false, false, false, false, false, false, false, false, false, false, false, false, false, false, false] rfl rfl (any_of HT_.out t1_) (fun _ _ _ h => h) (Or.inl ⟨by rfl, ?_⟩) ?_ ?_
              rotate_left
              ·
               intro w'
               go_simp
               with_reducible rfl
              rotate_left
              ·
               simp only [Act.put, List.setIfInBounds_toArray, List.set_cons_zero, List.set_cons_succ, i64_w, i32_w]
               rfl
              refine pure_ (i := 8) (N := some 99) (v := ?_) (a' := ?_) #[true, true, true, true, true, true, true, true, true, false, false, false, false, false, false, false, false, false, false, false, false, false, false, false, false, false, false, false, false, false, false] rfl rfl (any_of HT_.out t1_) (fun _ _ _ h => h) (Or.inl ⟨by rfl, ?_⟩) ?_ ?_
              rotate_left
              ·
               intro w'
               go_simp
               with_reducible rfl
              rotate_left
              ·
               simp only [Act.put, List.setIfInBounds_toArray, List.set_cons_zero, List.set_cons_succ, i64_w, i32_w]
               rfl
              refine pure_ (i := 9) (N := some 100) (v := ?_) (a' := ?_) #[true, true, true, true, true, true, true, true, true, true, false, false, false, false, false, false, false, false, false, false, false, false, false, false, false, false, false, false, false, false, false] rfl rfl (any_of HT_.out t1_) (fun _ _ _ h => h) (Or.inl ⟨by rfl, ?_⟩) ?_ ?_
              rotate_left
              ·
               intro w'
               go_simp
               with_reducible rfl
              rotate_left
              ·
               simp only [Act.put, List.setIfInBounds_toArray, List.set_cons_zero, List.set_cons_succ, i64_w, i32_w]
               rfl
              refine pure_ (i := 10) (N := some 101) (v := undef) (a' := ?_) #[true, true, true, true, true, true, true, true, true, true, true, false, false, false, false, false, false, false, false, false, false, false, false, false, false, false, false, false, false, false, false] rfl rfl (any_of HT_.out t1_) (fun _ _ _ h => h) (Or.inr ⟨by rfl, rfl⟩) ?_ ?_
              rotate_left
              ·
               simp only [Act.put, List.setIfInBounds_toArray, List.set_cons_zero, List.set_cons_succ, i64_w, i32_w]
               rfl
              refine pure_ (i := 11) (N := some 102) (v := undef) (a' := ?_) #[true, true, true, true, true, true, true, true, true, true, true, true, false, false, false, false, false, false, false, false, false, false, false, false, false, false, false, false, false, false, false] rfl rfl (any_of HT_.out t1_) (fun _ _ _ h => h) (Or.inr ⟨by rfl, rfl⟩) ?_ ?_
              rotate_left
              ·
               simp only [Act.put, List.setIfInBounds_toArray, List.set_cons_zero, List.set_cons_succ, i64_w, i32_w]
               rfl
              refine pure_ (i := 12) (N := some 103) (v := undef) (a' := ?_) #[true, true, true, true, true, true, true, true, true, true, true, true, true, false, false, false, false, false, false, false, false, false, false, false, false, false, false, false, false, false, false] rfl rfl (any_of HT_.out t1_) (fun _ _ _ h => h) (Or.inr ⟨by rfl, rfl⟩) ?_ ?_
              rotate_left
              ·
               simp only [Act.put, List.setIfInBounds_toArray, List.set_cons_zero, List.set_cons_succ, i64_w, i32_w]
               rfl
              refine pure_ (i := 13) (N := some 104) (v := undef) (a' := ?_) #[true, true, true, true, true, true, true, true, true, true, true, true, true, true, false, false, false, false, false, false, false, false, false, false, false, false, false, false, false, false, false] rfl rfl (any_of HT_.out t1_) (fun _ _ _ h => h) (Or.inr ⟨by rfl, rfl⟩) ?_ ?_
              rotate_left
              ·
               simp only [Act.put, List.setIfInBounds_toArray, List.set_cons_zero, List.set_cons_succ, i64_w, i32_w]
               rfl
              refine pure_ (i := 14) (N := some 105) (v := undef) (a' := ?_) #[true, true, true, true, true, true, true, true, true, true, true, true, true, true, true, false, false, false, false, false, false, false, false, false, false, false, false, false, false, false, false] rfl rfl (any_of HT_.out t1_) (fun _ _ _ h => h) (Or.inr ⟨by rfl, rfl⟩) ?_ ?_
              rotate_left
              ·
               simp only [Act.put, List.setIfInBounds_toArray, List.set_cons_zero, List.set_cons_succ, i64_w, i32_w]
               rfl
              refine pure_ (i := 15) (N := some 106) (v := undef) (a' := ?_) #[true, true, true, true, true, true, true, true, true, true, true, true, true, true, true, true, false, false, false, false, false, false, false, false, false, false, false, false, false, false, false] rfl rfl (any_of HT_.out t1_) (fun _ _ _ h => h) (Or.inr ⟨by rfl, rfl⟩) ?_ ?_
              rotate_left
              ·
               simp only [Act.put, List.setIfInBounds_toArray, List.set_cons_zero, List.set_cons_succ, i64_w, i32_w]
               rfl
              refine pure_ (i := 16) (N := some 107) (v := undef) (a' := ?_) #[true, true, true, true, true, true, true, true, true, true, true, true, true, true, true, true, true, false, false, false, false, false, false, false, false, false, false, false, false, false, false] rfl rfl (any_of HT_.out t1_) (fun _ _ _ h => h) (Or.inr ⟨by rfl, rfl⟩) ?_ ?_
              rotate_left
              ·
               simp only [Act.put, List.setIfInBounds_toArray, List.set_cons_zero, List.set_cons_succ, i64_w, i32_w]
               rfl
              refine pure_ (i := 17) (N := some 108) (v := undef) (a' := ?_) #[true, true, true, true, true, true, true, true, true, true, true, true, true, true, true, true, true, true, false, false, false, false, false, false, false, false, false, false, false, false, false] rfl rfl (any_of HT_.out t1_) (fun _ _ _ h => h) (Or.inr ⟨by rfl, rfl⟩) ?_ ?_
              rotate_left
              ·
               simp only [Act.put, List.setIfInBounds_toArray, List.set_cons_zero, List.set_cons_succ, i64_w, i32_w]
               rfl
              refine pure_ (i := 18) (N := some 109) (v := undef) (a' := ?_) #[true, true, true, true, true, true, true, true, true, true, true, true, true, true, true, true, true, true, true, false, false, false, false, false, false, false, false, false, false, false, false] rfl rfl (any_of HT_.out t1_) (fun _ _ _ h => h) (Or.inr ⟨by rfl, rfl⟩) ?_ ?_
              rotate_left
              ·
               simp only [Act.put, List.setIfInBounds_toArray, List.set_cons_zero, List.set_cons_succ, i64_w, i32_w]
               rfl
              refine pure_ (i := 19) (N := some 110) (v := undef) (a' := ?_) #[true, true, true, true, true, true, true, true, true, true, true, true, true, true, true, true, true, true, true, true, false, false, false, false, false, false, false, false, false, false, false] rfl rfl (any_of HT_.out t1_) (fun _ _ _ h => h) (Or.inr ⟨by rfl, rfl⟩) ?_ ?_
              rotate_left
              ·
               simp only [Act.put, List.setIfInBounds_toArray, List.set_cons_zero, List.set_cons_succ, i64_w, i32_w]
               rfl
              refine pure_ (i := 20) (N := some 111) (v := undef) (a' := ?_) #[true, true, true, true, true, true, true, true, true, true, true, true, true, true, true, true, true, true, true, true, true, false, false, false, false, false, false, false, false, false, false] rfl rfl (any_of HT_.out t1_) (fun _ _ _ h => h) (Or.inr ⟨by rfl, rfl⟩) ?_ ?_
              rotate_left
              ·
               simp only [Act.put, List.setIfInBounds_toArray, List.set_cons_zero, List.set_cons_succ, i64_w, i32_w]
               rfl
              refine pure_ (i := 21) (N := some 112) (v := undef) (a' := ?_) #[true, true, true, true, true, true, true, true, true, true, true, true, true, true, true, true, true, true, true, true, true, true, false, false, false, false, false, false, false, false, false] rfl rfl (any_of HT_.out t1_) (fun _ _ _ h => h) (Or.inr ⟨by rfl, rfl⟩) ?_ ?_
              rotate_left
              ·
               simp only [Act.put, List.setIfInBounds_toArray, List.set_cons_zero, List.set_cons_succ, i64_w, i32_w]
               rfl
              refine pure_ (i := 22) (N := some 113) (v := undef) (a' := ?_) #[true, true, true, true, true, true, true, true, true, true, true, true, true, true, true, true, true, true, true, true, true, true, true, false, false, false, false, false, false, false, false] rfl rfl (any_of HT_.out t1_) (fun _ _ _ h => h) (Or.inr ⟨by rfl, rfl⟩) ?_ ?_
              rotate_left
              ·
               simp only [Act.put, List.setIfInBounds_toArray, List.set_cons_zero, List.set_cons_succ, i64_w, i32_w]
               rfl
              refine pure_ (i := 23) (N := some 114) (v := undef) (a' := ?_) #[true, true, true, true, true, true, true, true, true, true, true, true, true, true, true, true, true, true, true, true, true, true, true, true, false, false, false, false, false, false, false] rfl rfl (any_of HT_.out t1_) (fun _ _ _ h => h) (Or.inr ⟨by rfl, rfl⟩) ?_ ?_
              rotate_left
              ·
               simp only [Act.put, List.setIfInBounds_toArray, List.set_cons_zero, List.set_cons_succ, i64_w, i32_w]
               rfl
              refine pure_ (i := 24) (N := some 115) (v := undef) (a' := ?_) #[true, true, true, true, true, true, true, true, true, true, true, true, true, true, true, true, true, true, true, true, true, true, true, true, true, false, false, false, false, false, false] rfl rfl (any_of HT_.out t1_) (fun _ _ _ h => h) (Or.inr ⟨by rfl, rfl⟩) ?_ ?_
              rotate_left
              ·
               simp only [Act.put, List.setIfInBounds_toArray, List.set_cons_zero, List.set_cons_succ, i64_w, i32_w]
               rfl
              refine pure_ (i := 25) (N := some 116) (v := undef) (a' := ?_) #[true, true, true, true, true, true, true, true, true, true, true, true, true, true, true, true, true, true, true, true, true, true, true, true, true, true, false, false, false, false, false] rfl rfl (any_of HT_.out t1_) (fun _ _ _ h => h) (Or.inr ⟨by rfl, rfl⟩) ?_ ?_
              rotate_left
              ·
               simp only [Act.put, List.setIfInBounds_toArray, List.set_cons_zero, List.set_cons_succ, i64_w, i32_w]
               rfl
              refine pure_ (i := 26) (N := some 117) (v := undef) (a' := ?_) #[true, true, true, true, true, true, true, true, true, true, true, true, true, true, true, true, true, true, true, true, true, true, true, true, true, true, true, false, false, false, false] rfl rfl (any_of HT_.out t1_) (fun _ _ _ h => h) (Or.inr ⟨by rfl, rfl⟩) ?_ ?_
              rotate_left
              ·
               simp only [Act.put, List.setIfInBounds_toArray, List.set_cons_zero, List.set_cons_succ, i64_w, i32_w]
               rfl
              refine pure_ (i := 27) (N := some 118) (v := undef) (a' := ?_) #[true, true, true, true, true, true, true, true, true, true, true, true, true, true, true, true, true, true, true, true, true, true, true, true, true, true, true, true, false, false, false] rfl rfl (any_of HT_.out t1_) (fun _ _ _ h => h) (Or.inr ⟨by rfl, rfl⟩) ?_ ?_
              rotate_left
              ·
               simp only [Act.put, List.setIfInBounds_toArray, List.set_cons_zero, List.set_cons_succ, i64_w, i32_w]
               rfl
              refine pure_ (i := 28) (N := some 119) (v := undef) (a' := ?_) #[true, true, true, true, true, true, true, true, true, true, true, true, true, true, true, true, true, true, true, true, true, true, true, true, true, true, true, true, true, false, false] rfl rfl (any_of HT_.out t1_) (fun _ _ _ h => h) (Or.inr ⟨by rfl, rfl⟩) ?_ ?_
              rotate_left
              ·
               simp only [Act.put, List.setIfInBounds_toArray, List.set_cons_zero, List.set_cons_succ, i64_w, i32_w]
               rfl
              refine pure_ (i := 29) (N := some 120) (v := undef) (a' := ?_) #[true, true, true, true, true, true, true, true, true, true, true, true, true, true, true, true, true, true, true, true, true, true, true, true, true, true, true, true, true, true, false] rfl rfl (any_of HT_.out t1_) (fun _ _ _ h => h) (Or.inr ⟨by rfl, rfl⟩) ?_ ?_
              rotate_left
              ·
               simp only [Act.put, List.setIfInBounds_toArray, List.set_cons_zero, List.set_cons_succ, i64_w, i32_w]
               rfl
              refine pure_ (i := 30) (N := some 121) (v := ?_) (a' := ?_) #[true, true, true, true, true, true, true, true, true, true, true, true, true, true, true, true, true, true, true, true, true, true, true, true, true, true, true, true, true, true, true] rfl rfl (any_of HT_.out t1_) (fun _ _ _ h => h) (Or.inl ⟨by rfl, ?_⟩) ?_ ?_
              rotate_left
              ·
               intro w'
               go_simp
               with_reducible rfl
              rotate_left
              ·
               simp only [Act.put, List.setIfInBounds_toArray, List.set_cons_zero, List.set_cons_succ, i64_w, i32_w]
               rfl
              refine done_ (done_of HT_.out t1_) ?_
              try go_wp2
              (try simp only [← hl7_3])
              go_roundg k3
              case measure => have := HK1.out; have := HK2.out; have := HK3.out; omega
              case rel => exact ⟨(x7_3), (wrap64 (x87_3 + 1)), t2_, H', ⟨t49_⟩, ⟨t37_⟩, ⟨t27_⟩, ⟨t26_⟩, ⟨L_ HB.out GE132.out GE132.out GE132.out⟩⟩
            ·
             rw [if_neg c98] at H; have c98b0 : (((rd_T43 t128 x87_3).f1) == 2) = false := beq_eq_false_iff_ne.mpr c98; have c98b1 : (((rd_T43 t128 x87_3).f1) != 2) = true := bne_iff_ne.mpr c98; have H' := a_ H; clear H; have p131 : 0 ≤ (x87_3 : Int) := of_decide_eq_true t0_; have q131 : x87_3 < (t128.length : Int) := of_decide_eq_true t0_; obtain ⟨ad131, e131, hx131_0, hx131_1⟩ := at_T43 (Kd.R_reads' HO_85.out).2.2 x87_3 p131 q131
             cases e131
             replace p131 := eq_true p131; replace q131 := eq_true q131
             try go_wp2_with (first | ((with_reducible refine gate_dst (N := 10) rfl ?_); refine box_event ?hg (N := 10) ?hd (cs := #[.int .i64 0, .int .i64 0]) (t := 43) ?hr ?_; (case hd => rfl); (case hg => rfl); (case hr => first | (go_simp; done) | (go_simp; rfl)); intro gb132 hg w152 hbox hb; have n0_ := a_ (Kd.R_below (R_ HO_3.out) hb); have n1_ := a_ (Kd.R_below (R_ HO_7.out) hb); have n2_ := a_ (Kd.R_below (Kd.R_elderB (R_ HO_85.out) gb132 (Nat.le_of_eq hg.symm)) hb); have n3_ := a_ (below_step (L_ HB.out (Nat.le_refl _) (Nat.le_refl _) (Nat.le_refl _)) hb); have n4_ := a_ (hbox); have n5_ := a_ ((by rw [hg]; exact (below_size (L_ HB.out (Nat.le_refl _) (Nat.le_refl _) (Nat.le_refl _))) : w.heap.size ≤ gb132)); have n6_ := a_ ((by rw [hg]; exact (below_size (L_ HB.out (Nat.le_refl _) (Nat.le_refl _) (Nat.le_refl _))) : w.heap.size ≤ gb132)); clear HO_3; clear HO_7; clear HO_85; clear HB; have HO_3 := n0_; have HO_7 := n1_; have HO_85 := n2_; have HB := n3_; have BK132 := n4_; have GW132 := n5_; have GE132 := n6_; clear n0_ n1_ n2_ n3_ n4_ n5_ n6_; clear hb hbox hg; have hcz153_0 : w152.cell? ⟨gb132, 0, none⟩ = some (.int .i64 0) := c_ BK132.out 0; have hcz153_1 : w152.cell? ⟨gb132, 1, none⟩ = some (.int .i64 0) := c_ BK132.out 1; have hfz153_0 := blk_frozen BK132.out 0; have hfz153_1 := blk_frozen BK132.out 1))
             have n0_ : Aside0 (Kd.R (Kd.int .i64) 3 ((w152.setCell ⟨gb132, 0, none⟩ (.int .i64 ((rd_T43 t128 x87_3).f0))).setCell ⟨gb132, 1, none⟩ (.int .i64 ((rd_T43 t128 x87_3).f1))) w.heap.size (fun k_ => some k_ ≠ (.slice (some ⟨go89, 0, none⟩) x7_3.length co85 : Value).ownBlock) aA x3_1) := ⟨t13_⟩; have n1_ : Aside0 (Kd.R (Kd.int .i64) 3 ((w152.setCell ⟨gb132, 0, none⟩ (.int .i64 ((rd_T43 t128 x87_3).f0))).setCell ⟨gb132, 1, none⟩ (.int .i64 ((rd_T43 t128 x87_3).f1))) w.heap.size (fun k_ => some k_ ≠ (aA : Value).ownBlock) (.slice (some ⟨go89, 0, none⟩) x7_3.length co85) x7_3) := ⟨t14_⟩; have n2_ : Aside0 (Kd.R k43 43 ((w152.setCell ⟨gb132, 0, none⟩ (.int .i64 ((rd_T43 t128 x87_3).f0))).setCell ⟨gb132, 1, none⟩ (.int .i64 ((rd_T43 t128 x87_3).f1))) w.heap.size (fun k_ => k_ ≠ gb132) (.slice (some ad131) t128.length co94) t128) := ⟨t8_⟩; have n3_ : Aside0 (((w152.setCell ⟨gb132, 0, none⟩ (.int .i64 ((rd_T43 t128 x87_3).f0))).setCell ⟨gb132, 1, none⟩ (.int .i64 ((rd_T43 t128 x87_3).f1))).heap[gb132]? = some (.cells #[.int .i64 ((rd_T43 t128 x87_3).f0), .int .i64 ((rd_T43 t128 x87_3).f1)] 43 (0, 0))) := ⟨t10_⟩; have n4_ : Aside0 (Below w.heap.size w ((w152.setCell ⟨gb132, 0, none⟩ (.int .i64 ((rd_T43 t128 x87_3).f0))).setCell ⟨gb132, 1, none⟩ (.int .i64 ((rd_T43 t128 x87_3).f1)))) := ⟨L_ HB.out GE132.out GE132.out GE132.out⟩
             (try clear HO_3)
             (try clear HO_7)
             (try clear HO_85)
             (try clear BK132)
             (try clear HB)
             generalize ((w152.setCell ⟨gb132, 0, none⟩ (.int .i64 ((rd_T43 t128 x87_3).f0))).setCell ⟨gb132, 1, none⟩ (.int .i64 ((rd_T43 t128 x87_3).f1))) = w154 at n0_ n1_ n2_ n3_ n4_ ⊢; have HO_3 := n0_; have HO_7 := n1_; have HO_85 := n2_; have BK132 := n3_; have HB := n4_; clear n0_ n1_ n2_ n3_ n4_; have n0_ := a_ (Kd.R_drew HO_3.out); have n1_ := a_ (Kd.R_drew HO_7.out); have n2_ := a_ (Kd.R_drew HO_85.out); have n3_ := a_ (blk_drew BK132.out); have n4_ := a_ (below_drew1 HB.out); clear HO_3; clear HO_7; clear HO_85; clear BK132; clear HB; have HO_3 := n0_; have HO_7 := n1_; have HO_85 := n2_; have BK132 := n3_; have HB := n4_; clear n0_ n1_ n2_ n3_ n4_
             refine start_ (n := 31) (S := fun w' => w'.cell? ⟨gb132, 0, none⟩ = some (.int .i64 ((rd_T43 t128 x87_3).f0)) ∧ w'.cell? ⟨gb132, 1, none⟩ = some (.int .i64 ((rd_T43 t128 x87_3).f1))) (ds := []) #[false, false, false, false, false, false, false, false, false, false, false, false, false, false, false, false, false, false, false, false, false, false, false, false, false, false, false, false, false, false, false] t1_ rfl rfl ⟨c_ BK132.out 0, c_ BK132.out 1⟩ (fun hHeld => ?_); refine with_tabW fewP.tab22 fewP.bits22 (fun HT_ HW_ => ?_)
             generalize w154.drew = w155 at HO_3 HO_7 HO_85 BK132 HB hHeld ⊢
             refine pure_ (i := 0) (N := some 91) (v := ?_) (a' := ?_) #[true, false, false, false, false, false, false, false, false, false, false, false, false, false, false, false, false, false, false, false, false, false, false, false, false, false, false, false, false, false, false] rfl rfl (any_of HT_.out t1_) (fun _ _ _ h => h) (Or.inl ⟨by rfl, ?_⟩) ?_ ?_
             rotate_left
             ·
              intro w'
              go_simp
              with_reducible rfl
             rotate_left
             ·
              simp only [Act.put, List.setIfInBounds_toArray, List.set_cons_zero, List.set_cons_succ, i64_w, i32_w]
              rfl
             refine take_ (i := 1) (N := some 92) (v := ?_) (a' := ?_) #[true, true, false, false, false, false, false, false, false, false, false, false, false, false, false, false, false, false, false, false, false, false, false, false, false, false, false, false, false, false, false] rfl rfl (take_ofW HT_.out HW_.out t1_) (fun _ _ _ h => h) (Or.inl ⟨by rfl, ?_⟩) hHeld ?_ ?_
             rotate_left
             ·
              rintro w' ⟨s0, s1⟩
              go_simp
              with_reducible rfl
             rotate_left
             ·
              simp only [Act.put, List.setIfInBounds_toArray, List.set_cons_zero, List.set_cons_succ, i64_w, i32_w]
              rfl
             refine pure_ (i := 2) (N := some 93) (v := ?_) (a' := ?_) #[true, true, true, false, false, false, false, false, false, false, false, false, false, false, false, false, false, false, false, false, false, false, false, false, false, false, false, false, false, false, false] rfl rfl (any_of HT_.out t1_) (fun _ _ _ h => h) (Or.inl ⟨by rfl, ?_⟩) ?_ ?_
             rotate_left
             ·
              intro w'
              go_simp
              with_reducible rfl
             rotate_left
             ·
              simp only [Act.put, List.setIfInBounds_toArray, List.set_cons_zero, List.set_cons_succ, i64_w, i32_w]
              rfl
             refine pure_ (i := 3) (N := some 94) (v := ?_) (a' := ?_) #[true, true, true, true, false, false, false, false, false, false, false, false, false, false, false, false, false, false, false, false, false, false, false, false, false, false, false, false, false, false, false] rfl rfl (any_of HT_.out t1_) (fun _ _ _ h => h) (Or.inl ⟨by rfl, ?_⟩) ?_ ?_
             rotate_left
             ·
              intro w'
              go_simp
              with_reducible rfl
             rotate_left
             ·
              simp only [Act.put, List.setIfInBounds_toArray, List.set_cons_zero, List.set_cons_succ, i64_w, i32_w]
              rfl
             refine pure_ (i := 4) (N := some 95) (v := undef) (a' := ?_) #[true, true, true, true, true, false, false, false, false, false, false, false, false, false, false, false, false, false, false, false, false, false, false, false, false, false, false, false, false, false, false] rfl rfl (any_of HT_.out t1_) (fun _ _ _ h => h) (Or.inr ⟨by rfl, rfl⟩) ?_ ?_
             rotate_left
             ·
              simp only [Act.put, List.setIfInBounds_toArray, List.set_cons_zero, List.set_cons_succ, i64_w, i32_w]
              rfl
             refine pure_ (i := 5) (N := some 96) (v := undef) (a' := ?_) #[true, true, true, true, true, true, false, false, false, false, false, false, false, false, false, false, false, false, false, false, false, false, false, false, false, false, false, false, false, false, false] rfl rfl (any_of HT_.out t1_) (fun _ _ _ h => h) (Or.inr ⟨by rfl, rfl⟩) ?_ ?_
             rotate_left
             ·
              simp only [Act.put, List.setIfInBounds_toArray, List.set_cons_zero, List.set_cons_succ, i64_w, i32_w]
              rfl
             refine pure_ (i := 6) (N := some 97) (v := undef) (a' := ?_) #[true, true, true, true, true, true, true, false, false, false, false, false, false, false, false, false, false, false, false, false, false, false, false, false, false, false, false, false, false, false, false] rfl rfl (any_of HT_.out t1_) (fun _ _ _ h => h) (Or.inr ⟨by rfl, rfl⟩) ?_ ?_
             rotate_left
             ·
              simp only [Act.put, List.setIfInBounds_toArray, List.set_cons_zero, List.set_cons_succ, i64_w, i32_w]
              rfl
             refine pure_ (i := 7) (N := some 98) (v := undef) (a' := ?_) #[true, true, true, true, true, true, true, true, false, false, false, false, false, false, false, false, false, false, false, false, false, false, false, false, false, false, false, false, false, false, false] rfl rfl (any_of HT_.out t1_) (fun _ _ _ h => h) (Or.inr ⟨by rfl, rfl⟩) ?_ ?_
             rotate_left
             ·
              simp only [Act.put, List.setIfInBounds_toArray, List.set_cons_zero, List.set_cons_succ, i64_w, i32_w]
              rfl
             refine pure_ (i := 8) (N := some 99) (v := ?_) (a' := ?_) #[true, true, true, true, true, true, true, true, true, false, false, false, false, false, false, false, false, false, false, false, false, false, false, false, false, false, false, false, false, false, false] rfl rfl (any_of HT_.out t1_) (fun _ _ _ h => h) (Or.inl ⟨by rfl, ?_⟩) ?_ ?_
             rotate_left
             ·
              intro w'
              go_simp
              with_reducible rfl
             rotate_left
             ·
              simp only [Act.put, List.setIfInBounds_toArray, List.set_cons_zero, List.set_cons_succ, i64_w, i32_w]
              rfl
             refine pure_ (i := 9) (N := some 100) (v := ?_) (a' := ?_) #[true, true, true, true, true, true, true, true, true, true, false, false, false, false, false, false, false, false, false, false, false, false, false, false, false, false, false, false, false, false, false] rfl rfl (any_of HT_.out t1_) (fun _ _ _ h => h) (Or.inl ⟨by rfl, ?_⟩) ?_ ?_
             rotate_left
             ·
              intro w'
              go_simp
              with_reducible rfl
             rotate_left
             ·
              simp only [Act.put, List.setIfInBounds_toArray, List.set_cons_zero, List.set_cons_succ, i64_w, i32_w]
              rfl
             refine pure_ (i := 10) (N := some 101) (v := undef) (a' := ?_) #[true, true, true, true, true, true, true, true, true, true, true, false, false, false, false, false, false, false, false, false, false, false, false, false, false, false, false, false, false, false, false] rfl rfl (any_of HT_.out t1_) (fun _ _ _ h => h) (Or.inr ⟨by rfl, rfl⟩) ?_ ?_
             rotate_left
             ·
              simp only [Act.put, List.setIfInBounds_toArray, List.set_cons_zero, List.set_cons_succ, i64_w, i32_w]
              rfl
             refine pure_ (i := 11) (N := some 102) (v := undef) (a' := ?_) #[true, true, true, true, true, true, true, true, true, true, true, true, false, false, false, false, false, false, false, false, false, false, false, false, false, false, false, false, false, false, false] rfl rfl (any_of HT_.out t1_) (fun _ _ _ h => h) (Or.inr ⟨by rfl, rfl⟩) ?_ ?_
             rotate_left
             ·
              simp only [Act.put, List.setIfInBounds_toArray, List.set_cons_zero, List.set_cons_succ, i64_w, i32_w]
              rfl
             refine pure_ (i := 12) (N := some 103) (v := undef) (a' := ?_) #[true, true, true, true, true, true, true, true, true, true, true, true, true, false, false, false, false, false, false, false, false, false, false, false, false, false, false, false, false, false, false] rfl rfl (any_of HT_.out t1_) (fun _ _ _ h => h) (Or.inr ⟨by rfl, rfl⟩) ?_ ?_
             rotate_left
             ·
              simp only [Act.put, List.setIfInBounds_toArray, List.set_cons_zero, List.set_cons_succ, i64_w, i32_w]
              rfl
             refine pure_ (i := 13) (N := some 104) (v := undef) (a' := ?_) #[true, true, true, true, true, true, true, true, true, true, true, true, true, true, false, false, false, false, false, false, false, false, false, false, false, false, false, false, false, false, false] rfl rfl (any_of HT_.out t1_) (fun _ _ _ h => h) (Or.inr ⟨by rfl, rfl⟩) ?_ ?_
             rotate_left
             ·
              simp only [Act.put, List.setIfInBounds_toArray, List.set_cons_zero, List.set_cons_succ, i64_w, i32_w]
              rfl
             refine pure_ (i := 14) (N := some 105) (v := undef) (a' := ?_) #[true, true, true, true, true, true, true, true, true, true, true, true, true, true, true, false, false, false, false, false, false, false, false, false, false, false, false, false, false, false, false] rfl rfl (any_of HT_.out t1_) (fun _ _ _ h => h) (Or.inr ⟨by rfl, rfl⟩) ?_ ?_
             rotate_left
             ·
              simp only [Act.put, List.setIfInBounds_toArray, List.set_cons_zero, List.set_cons_succ, i64_w, i32_w]
              rfl
             refine pure_ (i := 15) (N := some 106) (v := undef) (a' := ?_) #[true, true, true, true, true, true, true, true, true, true, true, true, true, true, true, true, false, false, false, false, false, false, false, false, false, false, false, false, false, false, false] rfl rfl (any_of HT_.out t1_) (fun _ _ _ h => h) (Or.inr ⟨by rfl, rfl⟩) ?_ ?_
             rotate_left
             ·
              simp only [Act.put, List.setIfInBounds_toArray, List.set_cons_zero, List.set_cons_succ, i64_w, i32_w]
              rfl
             refine pure_ (i := 16) (N := some 107) (v := undef) (a' := ?_) #[true, true, true, true, true, true, true, true, true, true, true, true, true, true, true, true, true, false, false, false, false, false, false, false, false, false, false, false, false, false, false] rfl rfl (any_of HT_.out t1_) (fun _ _ _ h => h) (Or.inr ⟨by rfl, rfl⟩) ?_ ?_
             rotate_left
             ·
              simp only [Act.put, List.setIfInBounds_toArray, List.set_cons_zero, List.set_cons_succ, i64_w, i32_w]
              rfl
             refine pure_ (i := 17) (N := some 108) (v := undef) (a' := ?_) #[true, true, true, true, true, true, true, true, true, true, true, true, true, true, true, true, true, true, false, false, false, false, false, false, false, false, false, false, false, false, false] rfl rfl (any_of HT_.out t1_) (fun _ _ _ h => h) (Or.inr ⟨by rfl, rfl⟩) ?_ ?_
             rotate_left
             ·
              simp only [Act.put, List.setIfInBounds_toArray, List.set_cons_zero, List.set_cons_succ, i64_w, i32_w]
              rfl
             refine pure_ (i := 18) (N := some 109) (v := undef) (a' := ?_) #[true, true, true, true, true, true, true, true, true, true, true, true, true, true, true, true, true, true, true, false, false, false, false, false, false, false, false, false, false, false, false] rfl rfl (any_of HT_.out t1_) (fun _ _ _ h => h) (Or.inr ⟨by rfl, rfl⟩) ?_ ?_
             rotate_left
             ·
              simp only [Act.put, List.setIfInBounds_toArray, List.set_cons_zero, List.set_cons_succ, i64_w, i32_w]
              rfl
             refine pure_ (i := 19) (N := some 110) (v := undef) (a' := ?_) #[true, true, true, true, true, true, true, true, true, true, true, true, true, true, true, true, true, true, true, true, false, false, false, false, false, false, false, false, false, false, false] rfl rfl (any_of HT_.out t1_) (fun _ _ _ h => h) (Or.inr ⟨by rfl, rfl⟩) ?_ ?_
             rotate_left
             ·
              simp only [Act.put, List.setIfInBounds_toArray, List.set_cons_zero, List.set_cons_succ, i64_w, i32_w]
              rfl
             refine pure_ (i := 20) (N := some 111) (v := undef) (a' := ?_) #[true, true, true, true, true, true, true, true, true, true, true, true, true, true, true, true, true, true, true, true, true, false, false, false, false, false, false, false, false, false, false] rfl rfl (any_of HT_.out t1_) (fun _ _ _ h => h) (Or.inr ⟨by rfl, rfl⟩) ?_ ?_
             rotate_left
             ·
              simp only [Act.put, List.setIfInBounds_toArray, List.set_cons_zero, List.set_cons_succ, i64_w, i32_w]
              rfl
             refine pure_ (i := 21) (N := some 112) (v := undef) (a' := ?_) #[true, true, true, true, true, true, true, true, true, true, true, true, true, true, true, true, true, true, true, true, true, true, false, false, false, false, false, false, false, false, false] rfl rfl (any_of HT_.out t1_) (fun _ _ _ h => h) (Or.inr ⟨by rfl, rfl⟩) ?_ ?_
             rotate_left
             ·
              simp only [Act.put, List.setIfInBounds_toArray, List.set_cons_zero, List.set_cons_succ, i64_w, i32_w]
              rfl
             refine pure_ (i := 22) (N := some 113) (v := undef) (a' := ?_) #[true, true, true, true, true, true, true, true, true, true, true, true, true, true, true, true, true, true, true, true, true, true, true, false, false, false, false, false, false, false, false] rfl rfl (any_of HT_.out t1_) (fun _ _ _ h => h) (Or.inr ⟨by rfl, rfl⟩) ?_ ?_
             rotate_left
             ·
              simp only [Act.put, List.setIfInBounds_toArray, List.set_cons_zero, List.set_cons_succ, i64_w, i32_w]
              rfl
             refine pure_ (i := 23) (N := some 114) (v := undef) (a' := ?_) #[true, true, true, true, true, true, true, true, true, true, true, true, true, true, true, true, true, true, true, true, true, true, true, true, false, false, false, false, false, false, false] rfl rfl (any_of HT_.out t1_) (fun _ _ _ h => h) (Or.inr ⟨by rfl, rfl⟩) ?_ ?_
             rotate_left
             ·
              simp only [Act.put, List.setIfInBounds_toArray, List.set_cons_zero, List.set_cons_succ, i64_w, i32_w]
              rfl
             refine pure_ (i := 24) (N := some 115) (v := undef) (a' := ?_) #[true, true, true, true, true, true, true, true, true, true, true, true, true, true, true, true, true, true, true, true, true, true, true, true, true, false, false, false, false, false, false] rfl rfl (any_of HT_.out t1_) (fun _ _ _ h => h) (Or.inr ⟨by rfl, rfl⟩) ?_ ?_
             rotate_left
             ·
              simp only [Act.put, List.setIfInBounds_toArray, List.set_cons_zero, List.set_cons_succ, i64_w, i32_w]
              rfl
             refine pure_ (i := 25) (N := some 116) (v := undef) (a' := ?_) #[true, true, true, true, true, true, true, true, true, true, true, true, true, true, true, true, true, true, true, true, true, true, true, true, true, true, false, false, false, false, false] rfl rfl (any_of HT_.out t1_) (fun _ _ _ h => h) (Or.inr ⟨by rfl, rfl⟩) ?_ ?_
             rotate_left
             ·
              simp only [Act.put, List.setIfInBounds_toArray, List.set_cons_zero, List.set_cons_succ, i64_w, i32_w]
              rfl
             refine pure_ (i := 26) (N := some 117) (v := undef) (a' := ?_) #[true, true, true, true, true, true, true, true, true, true, true, true, true, true, true, true, true, true, true, true, true, true, true, true, true, true, true, false, false, false, false] rfl rfl (any_of HT_.out t1_) (fun _ _ _ h => h) (Or.inr ⟨by rfl, rfl⟩) ?_ ?_
             rotate_left
             ·
              simp only [Act.put, List.setIfInBounds_toArray, List.set_cons_zero, List.set_cons_succ, i64_w, i32_w]
              rfl
             refine pure_ (i := 27) (N := some 118) (v := undef) (a' := ?_) #[true, true, true, true, true, true, true, true, true, true, true, true, true, true, true, true, true, true, true, true, true, true, true, true, true, true, true, true, false, false, false] rfl rfl (any_of HT_.out t1_) (fun _ _ _ h => h) (Or.inr ⟨by rfl, rfl⟩) ?_ ?_
             rotate_left
             ·
              simp only [Act.put, List.setIfInBounds_toArray, List.set_cons_zero, List.set_cons_succ, i64_w, i32_w]
              rfl
             refine pure_ (i := 28) (N := some 119) (v := undef) (a' := ?_) #[true, true, true, true, true, true, true, true, true, true, true, true, true, true, true, true, true, true, true, true, true, true, true, true, true, true, true, true, true, false, false] rfl rfl (any_of HT_.out t1_) (fun _ _ _ h => h) (Or.inr ⟨by rfl, rfl⟩) ?_ ?_
             rotate_left
             ·
              simp only [Act.put, List.setIfInBounds_toArray, List.set_cons_zero, List.set_cons_succ, i64_w, i32_w]
              rfl
             refine pure_ (i := 29) (N := some 120) (v := undef) (a' := ?_) #[true, true, true, true, true, true, true, true, true, true, true, true, true, true, true, true, true, true, true, true, true, true, true, true, true, true, true, true, true, true, false] rfl rfl (any_of HT_.out t1_) (fun _ _ _ h => h) (Or.inr ⟨by rfl, rfl⟩) ?_ ?_
             rotate_left
             ·
              simp only [Act.put, List.setIfInBounds_toArray, List.set_cons_zero, List.set_cons_succ, i64_w, i32_w]
              rfl
             refine pure_ (i := 30) (N := some 121) (v := ?_) (a' := ?_) #[true, true, true, true, true, true, true, true, true, true, true, true, true, true, true, true, true, true, true, true, true, true, true, true, true, true, true, true, true, true, true] rfl rfl (any_of HT_.out t1_) (fun _ _ _ h => h) (Or.inl ⟨by rfl, ?_⟩) ?_ ?_
             rotate_left
             ·
              intro w'
              go_simp
              with_reducible rfl
             rotate_left
             ·
              simp only [Act.put, List.setIfInBounds_toArray, List.set_cons_zero, List.set_cons_succ, i64_w, i32_w]
              rfl
             refine done_ (done_of HT_.out t1_) ?_
             try go_wp2
             (try simp only [← hl7_3])
             go_roundg k3
             case measure => have := HK1.out; have := HK2.out; have := HK3.out; omega
             case rel => exact ⟨(x7_3), (wrap64 (x87_3 + 1)), t2_, H', ⟨t49_⟩, ⟨t37_⟩, ⟨t27_⟩, ⟨t26_⟩, ⟨L_ HB.out GE132.out GE132.out GE132.out⟩⟩
           ·
            rw [if_neg c97] at H
            exact absurd H t31_
          ·
           rw [if_neg c96] at H
           exact absurd H t31_
         ·
          rw [if_neg c95] at H; have c95b0 : decide (x87_3 < (t128.length : Int)) = false := decide_eq_false c95; clear c95; have H' := a_ H; clear H
          go_wp2
          (try simp only [← hl7_2, ← hl7_3])
          go_roundg k3
          case measure => have := HK1.out; have := HK2.out; have := HK3.out; omega
          case rel => exact ⟨(x7_3), (wrap64 (x79_2 + 1)), t2_, H', ⟨t49_⟩, ⟨t37_⟩, ⟨t27_⟩, ⟨L_ HB.out (Nat.le_refl _) (Nat.le_refl _) (Nat.le_refl _)⟩⟩
      ·
       rw [if_neg c88] at H
       exact absurd H t31_
     ·
      rw [if_neg c87] at H
      exact absurd H t31_
    ·
     rw [if_neg c86] at H; have c86b0 : decide (x79_2 < (y124.length : Int)) = false := decide_eq_false c86; have c86b1 : decide (x79_2 < (x7_2.length : Int)) = false := by first | (rw [hl7_2]; exact c86b0) | (rw [← hl7_2]; exact c86b0) | simpa using c86b0
     clear c86; obtain rfl := Option.some.inj H
     go_wp2
     go_ret
     exact ⟨_, by first | rfl | (simp [errW_none, errW_some] <;> rfl) | (simp [*, errW_none, errW_some] <;> rfl), by (with_reducible repeat (first | apply Kd.R_alloc | apply Kd.R_drewN | apply Kd.R_drew)); exact Kd.R_mono HO_7.out (fun _ hk => trivial), by repeat (first | (with_reducible first | exact HB.out | apply below_alloc | apply pw_below_drewN | apply below_drew1) | exact HB.out)⟩
 ·
  rw [if_neg c82] at H
  exact absurd H t31_
set_option maxHeartbeats 8000000 in
set_option maxRecDepth 1000000 in
theorem c74  (fH aB fF fI aC aD aE aF aG aH aI aJ aK aL aM aN aO aP aQ aR aS aT aU aV aX aY aZ bA bB bC bD bE bF bG bH bI bJ bK bL bM bN bO bP bQ bR bS bT bU bV bX bY bZ cA cB cC cD cE cF cG cH cI cJ cK cL cM cN cO cP cQ cR cS cT cU cV fG cW cX cY cZ dA dB dC dD dE dF dG dH dI dJ dK dL dM dN dO dP dQ dR dS dT dU dV dW dX dY dZ eA eB eC eD eE eF eG eH eI eJ eK eL eM eN eP eQ eR eS eT eU eV eW eX eY eZ fA fB fC fD fE : Value) (w : World) (Q : Exit → Act → World → Prop)
  (_h : True)
  (hk : ∀ (fM fN : Value), Q .normal ⟨List.toArray (fH::aB::fM::fI::aC::aD::aE::aF::aG::aH::aI::aJ::aK::aL::aM::aN::aO::aP::aQ::aR::aS::aT::aU::aV::aX::aY::aZ::bA::bB::bC::bD::bE::bF::bG::bH::bI::bJ::bK::bL::bM::bN::bO::bP::bQ::bR::bS::bT::bU::bV::bX::bY::bZ::cA::cB::cC::cD::cE::cF::cG::cH::cI::cJ::cK::cL::cM::cN::cO::cP::cQ::cR::cS::cT::cU::cV::.bool false::fN::cW::cX::cY::cZ::dA::dB::dC::dD::dE::dF::dG::dH::dI::dJ::dK::dL::dM::dN::dO::dP::dQ::dR::dS::dT::dU::dV::dW::dX::dY::dZ::eA::eB::eC::eD::eE::eF::eG::eH::eI::eJ::eK::eL::eM::eN::eP::eQ::eR::eS::eT::eU::eV::eW::eX::eY::eZ::fA::fB::fC::fD::fE::[]), []⟩ w) : (piece34 [1, 1, 1, 0, 1] (Try.f34.body.getD .skip)).wp Try.prog Q ⟨List.toArray (fH::aB::fF::fI::aC::aD::aE::aF::aG::aH::aI::aJ::aK::aL::aM::aN::aO::aP::aQ::aR::aS::aT::aU::aV::aX::aY::aZ::bA::bB::bC::bD::bE::bF::bG::bH::bI::bJ::bK::bL::bM::bN::bO::bP::bQ::bR::bS::bT::bU::bV::bX::bY::bZ::cA::cB::cC::cD::cE::cF::cG::cH::cI::cJ::cK::cL::cM::cN::cO::cP::cQ::cR::cS::cT::cU::cV::.bool false::fG::cW::cX::cY::cZ::dA::dB::dC::dD::dE::dF::dG::dH::dI::dJ::dK::dL::dM::dN::dO::dP::dQ::dR::dS::dT::dU::dV::dW::dX::dY::dZ::eA::eB::eC::eD::eE::eF::eG::eH::eI::eJ::eK::eL::eM::eN::eP::eQ::eR::eS::eT::eU::eV::eW::eX::eY::eZ::fA::fB::fC::fD::fE::[]), []⟩ w := by
 conv => arg 2; whnf
 have HK := a_ hk; clear hk
 go_wp2
 exact HK.out _ _
end Go.Proofs.Ytacmfgbeaoalfaa.QFnDartsFinish
