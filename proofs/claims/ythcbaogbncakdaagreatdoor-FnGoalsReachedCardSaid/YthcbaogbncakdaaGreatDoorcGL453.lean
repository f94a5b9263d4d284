/- laws.FnGoalsReached's loop behind the greatest score that is not reached, walked: nothing in it comes out false. Conditions: what CanReach answers there. -/
import Derived.Test.YthcbaogbncakdaaGreatDoorcGL0
namespace Go.Proofs.YthcbaogbncakdaaGreatDoor.QFnGoalsReached
open Go.RowKit Go.Proofs.YthcbaogbncakdaaGreatDoorW.PrintWords Go.Proofs.YthcbaogbncakdaaGreatDoorW.PrintLast Go.Proofs.YthcbaogbncakdaaGreatDoorW.PrintMore
set_option linter.unusedVariables false
set_option linter.unusedSimpArgs false
structure GF (u : List Int) (gr : Int) : Prop where
  len : 1 ≤ u.length ∧ u.length ≤ 5
  gr1 : 1 ≤ gr
  gr2 : gr ≤ 1000
  k0 : 1 ≤ rd u 0 ∧ rd u 0 ≤ 20
  can : ∀ i : Nat, (i : Int) ≤ rd u 0 → gr + (i : Int) ≤ 200 → ∃ k, impl_CanReach.f k u (gr + i) = some (decide (0 < (i : Int)), true)
set_option maxHeartbeats 8000000 in
set_option maxRecDepth 1000000 in
theorem b453 (u : List Int) (gr : Int) (th : Bool) (Au : Option Addr) (cu : Nat) (w0 : World) (aB aC aD aE sH aF aG aH aI aJ aK aL aM aN aO aP aQ aR aS aT aU aV aW aX aY aZ bA bB bC bD bE bF bG bH bI bJ bK bL bM bN bO bP bQ bR bS bT bU bV bW bX bY sI sJ sK bZ cA cB cC cD cE cF cG cH cI cJ cK cL cM cN cO cP cQ cR cS cT cU cV cW cX cY cZ dA dB dC dD dE dF dG dH dI dJ dK dL dM dN dO dP dQ dR dS dT dU dV dW dX dY dZ eA eB eC eD eE eF eG eH eI eJ eK eL eM eN eO eP eQ eR eS eT eU eV eW eX eY eZ fA fB fC fD fE fF fG fH fI fJ fK fL fM fN fO fP fQ fR fS fT fU fV fW fX fY fZ gA gB gC gD gE gF gG gH gI gJ gK gL gM gN gO gP gQ gR gS gT gU gV gW gX gY gZ hA hB hC hD hE hF hH hI hJ hK hL hM hN hO hP hQ hR hS hT hU hV hW hX hY hZ iA iB iC iD iE iF iG iH iI iJ iK iL iM iN iO iP iQ iR iS iT iU iV iW iX iY iZ jA jB jC jD jE jF jG jH jI jJ jK jL jM jN jO jP jQ jR jS jT jU jV jW jX jY jZ kA kB kC kD kE kF kG kH kI kJ kK kL kM kN kO kP kQ kR kS kT kU kV kW kX kY kZ lA lB lC lD lE lF lG lH lI lJ lK lL lM lN lO lP lQ lR lS lT lU lV lW lX lY lZ mA mB mC mD mE mF mG mH mI mJ mK mL mM mN mO mP mQ mR mS mT mU mV mW mX mY mZ nA nB nC nD nE nF nG nH nI nJ nK nL nM nN nO nP nQ nR nS nT nU nV nW nX nY nZ oA oB oC oD oE oF oG oH oI oJ oK oL oM oN oO oP oQ oR oS oT oU oV oW oX oY oZ pA pB pC pD pE pF pG pH pI pJ pK pL pM pN pO pP pQ pR pS pT pU pV pW pX pY pZ qA qB qC qD qE qF qG qH qI qJ qK qL qM qN qO qP qQ qR qS qT qU qV qW qX qY qZ rA rB rC rD rE rF sL sM sN sO sP sQ sR sS sT sU sV sW sX sY sZ tA tB tC tE tF tG tH tI tJ tK tL tM tN tO tP tQ rG rH rI rJ rK rL rM rN rO rP rQ rR rS rT rU rV rX rY rZ sA sB sC sD sE sF sG : Value) (w : World) (Q : Exit → Act → World → Prop)
    (HB0 : Below w0.heap.size w0 w) (hG : th = true → GF u gr) (h40 : Kd.C (Kd.int .i64) w Au u.length u) (b40 : u.length ≤ cu)
    (hk : ∀ (tR aA tS tT tU tV tW tX tY tZ uA uB uC uD uE uF uG uH uI uJ uK uL uM uN uO uP uQ uR uS uT uU uV uW uX uY : Value) (w' : World), Below w0.heap.size w0 w' → Q .normal ⟨List.toArray (aB::aC::aD::aE::tR::aF::aG::aH::aI::aJ::aK::aL::aM::aN::aO::aP::aQ::aR::aS::aT::aU::aV::aW::aX::aY::aZ::bA::bB::bC::bD::bE::bF::bG::bH::bI::bJ::bK::bL::bM::bN::.slice Au u.length cu::.int .i64 gr::.bool th::bO::bP::bQ::bR::bS::bT::bU::bV::bW::bX::bY::aA::tS::tT::bZ::cA::cB::cC::cD::cE::cF::cG::cH::cI::cJ::cK::cL::cM::cN::cO::cP::cQ::cR::cS::cT::cU::cV::cW::cX::cY::cZ::dA::dB::dC::dD::dE::dF::dG::dH::dI::dJ::dK::dL::dM::dN::dO::dP::dQ::dR::dS::dT::dU::dV::dW::dX::dY::dZ::eA::eB::eC::eD::eE::eF::eG::eH::eI::eJ::eK::eL::eM::eN::eO::eP::eQ::eR::eS::eT::eU::eV::eW::eX::eY::eZ::fA::fB::fC::fD::fE::fF::fG::fH::fI::fJ::fK::fL::fM::fN::fO::fP::fQ::fR::fS::fT::fU::fV::fW::fX::fY::fZ::gA::gB::gC::gD::gE::gF::gG::gH::gI::gJ::gK::gL::gM::gN::gO::gP::gQ::gR::gS::gT::gU::gV::gW::gX::gY::gZ::hA::hB::hC::hD::hE::hF::hH::hI::hJ::hK::hL::hM::hN::hO::hP::hQ::hR::hS::hT::hU::hV::hW::hX::hY::hZ::iA::iB::iC::iD::iE::iF::iG::iH::iI::iJ::iK::iL::iM::iN::iO::iP::iQ::iR::iS::iT::iU::iV::iW::iX::iY::iZ::jA::jB::jC::jD::jE::jF::jG::jH::jI::jJ::jK::jL::jM::jN::jO::jP::jQ::jR::jS::jT::jU::jV::jW::jX::jY::jZ::kA::kB::kC::kD::kE::kF::kG::kH::kI::kJ::kK::kL::kM::kN::kO::kP::kQ::kR::kS::kT::kU::kV::kW::kX::kY::kZ::lA::lB::lC::lD::lE::lF::lG::lH::lI::lJ::lK::lL::lM::lN::lO::lP::lQ::lR::lS::lT::lU::lV::lW::lX::lY::lZ::mA::mB::mC::mD::mE::mF::mG::mH::mI::mJ::mK::mL::mM::mN::mO::mP::mQ::mR::mS::mT::mU::mV::mW::mX::mY::mZ::nA::nB::nC::nD::nE::nF::nG::nH::nI::nJ::nK::nL::nM::nN::nO::nP::nQ::nR::nS::nT::nU::nV::nW::nX::nY::nZ::oA::oB::oC::oD::oE::oF::oG::oH::oI::oJ::oK::oL::oM::oN::oO::oP::oQ::oR::oS::oT::oU::oV::oW::oX::oY::oZ::pA::pB::pC::pD::pE::pF::pG::pH::pI::pJ::pK::pL::pM::pN::pO::pP::pQ::pR::pS::pT::pU::pV::pW::pX::pY::pZ::qA::qB::qC::qD::qE::qF::qG::qH::qI::qJ::qK::qL::qM::qN::qO::qP::qQ::qR::qS::qT::qU::qV::qW::qX::qY::qZ::rA::rB::rC::rD::rE::rF::.bool th::tU::tV::tW::tX::tY::tZ::uA::uB::uC::uD::uE::uF::uG::uH::uI::uJ::uK::uL::uM::uN::uO::uP::uQ::uR::uS::uT::uU::uV::uW::uX::uY::rG::rH::rI::rJ::rK::rL::rM::rN::rO::rP::rQ::rR::rS::rT::rU::rV::rX::rY::rZ::sA::sB::sC::sD::sE::sF::sG::[]), []⟩ w') : (piece [1, 1, 1, 1, 1, 1, 1, 1, 1, 1, 1, 1, 1, 1, 1, 1, 1, 1, 1, 1, 1, 1, 1, 1, 1, 1, 1, 1, 1, 0, 1] (Tryz.f3.body.getD .skip)).wp Tryz.prog Q ⟨List.toArray (aB::aC::aD::aE::sH::aF::aG::aH::aI::aJ::aK::aL::aM::aN::aO::aP::aQ::aR::aS::aT::aU::aV::aW::aX::aY::aZ::bA::bB::bC::bD::bE::bF::bG::bH::bI::bJ::bK::bL::bM::bN::.slice Au u.length cu::.int .i64 gr::.bool th::bO::bP::bQ::bR::bS::bT::bU::bV::bW::bX::bY::sI::sJ::sK::bZ::cA::cB::cC::cD::cE::cF::cG::cH::cI::cJ::cK::cL::cM::cN::cO::cP::cQ::cR::cS::cT::cU::cV::cW::cX::cY::cZ::dA::dB::dC::dD::dE::dF::dG::dH::dI::dJ::dK::dL::dM::dN::dO::dP::dQ::dR::dS::dT::dU::dV::dW::dX::dY::dZ::eA::eB::eC::eD::eE::eF::eG::eH::eI::eJ::eK::eL::eM::eN::eO::eP::eQ::eR::eS::eT::eU::eV::eW::eX::eY::eZ::fA::fB::fC::fD::fE::fF::fG::fH::fI::fJ::fK::fL::fM::fN::fO::fP::fQ::fR::fS::fT::fU::fV::fW::fX::fY::fZ::gA::gB::gC::gD::gE::gF::gG::gH::gI::gJ::gK::gL::gM::gN::gO::gP::gQ::gR::gS::gT::gU::gV::gW::gX::gY::gZ::hA::hB::hC::hD::hE::hF::hH::hI::hJ::hK::hL::hM::hN::hO::hP::hQ::hR::hS::hT::hU::hV::hW::hX::hY::hZ::iA::iB::iC::iD::iE::iF::iG::iH::iI::iJ::iK::iL::iM::iN::iO::iP::iQ::iR::iS::iT::iU::iV::iW::iX::iY::iZ::jA::jB::jC::jD::jE::jF::jG::jH::jI::jJ::jK::jL::jM::jN::jO::jP::jQ::jR::jS::jT::jU::jV::jW::jX::jY::jZ::kA::kB::kC::kD::kE::kF::kG::kH::kI::kJ::kK::kL::kM::kN::kO::kP::kQ::kR::kS::kT::kU::kV::kW::kX::kY::kZ::lA::lB::lC::lD::lE::lF::lG::lH::lI::lJ::lK::lL::lM::lN::lO::lP::lQ::lR::lS::lT::lU::lV::lW::lX::lY::lZ::mA::mB::mC::mD::mE::mF::mG::mH::mI::mJ::mK::mL::mM::mN::mO::mP::mQ::mR::mS::mT::mU::mV::mW::mX::mY::mZ::nA::nB::nC::nD::nE::nF::nG::nH::nI::nJ::nK::nL::nM::nN::nO::nP::nQ::nR::nS::nT::nU::nV::nW::nX::nY::nZ::oA::oB::oC::oD::oE::oF::oG::oH::oI::oJ::oK::oL::oM::oN::oO::oP::oQ::oR::oS::oT::oU::oV::oW::oX::oY::oZ::pA::pB::pC::pD::pE::pF::pG::pH::pI::pJ::pK::pL::pM::pN::pO::pP::pQ::pR::pS::pT::pU::pV::pW::pX::pY::pZ::qA::qB::qC::qD::qE::qF::qG::qH::qI::qJ::qK::qL::qM::qN::qO::qP::qQ::qR::qS::qT::qU::qV::qW::qX::qY::qZ::rA::rB::rC::rD::rE::rF::.bool th::sL::sM::sN::sO::sP::sQ::sR::sS::sT::sU::sV::sW::sX::sY::sZ::tA::tB::tC::tE::tF::tG::tH::tI::tJ::tK::tL::tM::tN::tO::tP::tQ::rG::rH::rI::rJ::rK::rL::rM::rN::rO::rP::rQ::rR::rS::rT::rU::rV::rX::rY::rZ::sA::sB::sC::sD::sE::sF::sG::[]), []⟩ w := by
  conv => arg 2; whnf
  have HK := Aside0.mk hk
  clear hk
  have HB := Aside0.mk HB0
  clear HB0
  cases th
  · go_wp2
    exact HK.out _ _ _ _ _ _ _ _ _ _ _ _ _ _ _ _ _ _ _ _ _ _ _ _ _ _ _ _ _ _ _ _ _ _ _  w HB.out
  · have F := Aside0.mk (hG rfl)
    clear hG
    have h1 := F.out.len
    have g1 := F.out.gr1
    have g2 := F.out.gr2
    have H40 := Aside0.mk h40
    have HW := Aside0.mk (Below.refl w.heap.size w)
    clear h40
    have c1 : decide (gr < 1) = false := decide_eq_false (by omega)
    go_wp2
    go_loopw [54] (fun aA wr => ∃ i : Nat, i ≤ 21 ∧ aA = .int .i64 i ∧ Aside0 (Below w0.heap.size w0 wr) ∧ Aside0 (Below w.heap.size w wr)) (fun aA _ => 21 - (intOf aA).toNat)
    case atStart => exact ⟨0, by omega, rfl, HB, HW⟩
    case round =>
      clear HB HW
      obtain ⟨i, hi, rfl, HB, HW⟩ := hrel
      have z_ : (0 : Int) < (u.length : Int) := by omega
      obtain ⟨ad, rfl, hy⟩ := Kd.at_int (Kd.C_below H40.out HW.out) 0 (Int.le_refl _) z_
      obtain ⟨k0, hk0⟩ : ∃ z, z = rd u 0 := ⟨_, rfl⟩
      have F0 := F.out.k0
      rw [← hk0] at hy F0
      have hy2 : wr.cell? ad = some (.int .i64 k0) := by rw [Int.toNat_zero, show ad.add 0 = ad from rfl] at hy; exact hy
      have w1 : wrap64 (gr + (i : Int)) = gr + i := by unfold wrap64; omega
      have w2 : IntKind.i64.wrap (gr + (i : Int)) = gr + i := by rw [i64_w]; exact w1
      have w3 : wrap64 ((i : Int) + 1) = (i : Int) + 1 := by unfold wrap64; omega
      have w4 : IntKind.i64.wrap ((i : Int) + 1) = (i : Int) + 1 := by rw [i64_w]; exact w3
      have d3 := eq_true z_
      have d4 : (0 < u.length) = True := eq_true (by omega)
      by_cases ck : (i : Int) ≤ k0
      · have e1 : decide ((i : Int) ≤ k0) = true := decide_eq_true ck
        by_cases cs : gr + (i : Int) ≤ 200
        · have e2 : decide (gr + (i : Int) ≤ 200) = true := decide_eq_true cs
          obtain ⟨kk, hc⟩ := F.out.can i (by rw [← hk0]; exact ck) cs
          have HCC := Aside0.mk hc
          have hi20 := Aside0.mk (show i + 1 ≤ 21 by omega)
          have e3 : decide (0 < (i : Int)) = decide (0 < i) := decide_eq_decide.2 (by omega)
          obtain ⟨bz, hbz⟩ : ∃ z, z = decide (0 < (i : Int)) := ⟨_, rfl⟩
          rw [← hbz] at HCC e3
          have e4 : decide (0 < (i : Int)) = bz := hbz.symm
          have e5 : decide (0 < i) = bz := e3.symm
          clear hc hk0 F0 z_ ck cs hi hbz e3
          cases bz
          all_goals
            go_wp2_with (go_at_call 10; (with_reducible refine (impl_CanReach.calls kk _ cu u _ _ true _ ?sa b40 HCC.out).mono ?_); (case sa => exact Kd.C_below H40.out HW.out); rintro e w3 ⟨rfl, hb⟩; have HB2 := Aside0.mk (below_step HB.out hb); have HW2 := Aside0.mk (below_step HW.out hb); clear HB HW hb hy hy2; have HB := HB2; have HW := HW2; clear HB2 HW2)
            go_roundw
            case rel => exact ⟨i + 1, hi20.out, by go_num, HB, HW⟩
            all_goals (have := hi20.out; first | omega | (simp [intOf]; omega))
        · have e2 : decide (gr + (i : Int) ≤ 200) = false := decide_eq_false cs
          clear hk0 F0 z_ ck cs
          go_wp2
          exact HK.out _ _ _ _ _ _ _ _ _ _ _ _ _ _ _ _ _ _ _ _ _ _ _ _ _ _ _ _ _ _ _ _ _ _ _  _ HB.out
      · have e1 : decide ((i : Int) ≤ k0) = false := decide_eq_false ck
        clear hk0 F0 z_ ck
        go_wp2
        exact HK.out _ _ _ _ _ _ _ _ _ _ _ _ _ _ _ _ _ _ _ _ _ _ _ _ _ _ _ _ _ _ _ _ _ _ _  _ HB.out
end Go.Proofs.YthcbaogbncakdaaGreatDoor.QFnGoalsReached
