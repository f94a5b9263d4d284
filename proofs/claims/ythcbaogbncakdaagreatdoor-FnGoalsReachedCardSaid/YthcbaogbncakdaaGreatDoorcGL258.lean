/- laws.FnGoalsReached's block of valid kinds, walked: nothing in it comes out false. Conditions: what the answers hold. -/
import Derived.Test.YthcbaogbncakdaaGreatDoorcGL0
namespace Go.Proofs.YthcbaogbncakdaaGreatDoor.QFnGoalsReached
open Go.RowKit Go.Proofs.YthcbaogbncakdaaGreatDoorW.PrintWords Go.Proofs.YthcbaogbncakdaaGreatDoorW.PrintLast Go.Proofs.YthcbaogbncakdaaGreatDoorW.PrintMore
set_option linter.unusedVariables false
set_option linter.unusedSimpArgs false
set_option maxHeartbeats 8000000 in
set_option maxRecDepth 1000000 in
theorem b258 (l none_ : List Int) (s lists orders miss : Int) (can three seven : Bool) (Ak An : Option Addr) (ck cn : Nat) (w0 : World) (aA aB aC aD rJ aE aF aG aH aI aJ aK aL aM aN aO aP aQ aR aS aT aU aV aW aX aY rK aZ bA bB bC bD bE bF bG bH bI bJ bK bL bM bN bO bP bQ bR bS bT bU bV bW bX bY bZ cA cB cC cD cE cF cG cH cI cJ cK cL cM cN cO cP cQ cR cS cT cU cV cW cX cY cZ dA dB dC dD dE dF dG dH dI dJ dK dL dM dN dO dP dQ dR dS dT dU dV dW dX dY dZ eA eB eC eD eE eF eG eH eI eJ eK eL eM eN eO eP eQ eR eS eT eU eV eW eX eY eZ fA fB fC fD fE fF fG fH fI fJ fK fL fM fN fO fP fQ fR fS fT fU fV fW fX fY fZ gA gB gC gD gE gF gG gH gI gJ gK gL gM gN gO gP gQ gR gS gT gU gV gW gX gY gZ hA hB hC hD hE hF hG hI hK hL hM hN hO hQ hS hU hV hW hX hY hZ iA iB iC iD iE iF iG iH iI iJ iK iL iM iN iO iP iQ iR iS iT iU iV iW iX iY iZ jA jB jC jD jE jF jG jH jI jJ jK jL jM jN jO jP jQ jR rL rM rN rO rP rQ rR rS rT rU rV rX rY rZ sA sB sC sD sE sF sG sH sI sJ sK sL sM sN sO sP sQ sR sS sT sU sV sW sX sY sZ tA tB tC tE tF tG tH tI tJ tK tL tM tN tO tP jS jT jU jV jW jX jY jZ kA kB kC kD kE kF kG kI kJ kK kL kM kN kO kP kQ kS kT kU kV kW kX kY kZ lA lB lC lD lE lF lG lH lI lJ lK lL lM lN lO lP lQ lR lS lT lU lV lW lX lY lZ mA mB mC mD mE mF mG mH mI mJ mK mL mM mN mO mP mQ mR mS mT mU mV mW mX mY mZ nA nB nC nD nE nF nG nH nI nJ nK nL nM nN nO nP nQ nR nS nT nU nV nW nX nY nZ oA oB oC oD oE oF oG oH oI oJ oK oL oM oN oO oP oQ oR oS oT oU oV oW oX oY oZ pA pB pC pD pE pF pG pH pI pJ pK pL pM pN pO pP pQ pR pS pT pU pV pW pX pY pZ qA qB qC qD qE qF qG qH qI qJ qK qL qM qN qO qP qQ qR qS qT qU qV qW qX qY qZ rA rB rC rD rE rF rG rH rI : Value) (w : World) (Q : Exit → Act → World → Prop)
    (HB0 : Below w0.heap.size w0 w) (hT : three = true → TF l s can seven lists orders none_ miss) (h5 : Kd.C (Kd.int .i64) w Ak l.length l) (h27 : Kd.C (Kd.int .i64) w An none_.length none_) (b27 : none_.length ≤ cn)
    (hk : ∀ (tQ tR tS tT tU tV tW tX tY tZ uA uB uC uD uE uF uG uH uI uJ uK uL uM uN uO uP uQ uR uS uT uU uV uW uX uY uZ vA vB vC vD vE vF vG vH vI vJ vK vL vM vN vO vP vQ vR vS vT vU : Value) (w' : World), Below w0.heap.size w0 w' → Q .normal ⟨List.toArray (aA::aB::aC::aD::tQ::.slice Ak l.length ck::.int .i64 s::aE::aF::aG::aH::aI::aJ::aK::aL::.bool can::.bool three::aM::aN::.int .i64 lists::aO::aP::aQ::.int .i64 orders::.bool seven::aR::aS::.slice An none_.length cn::aT::aU::aV::.int .i64 miss::aW::aX::aY::tR::aZ::bA::bB::bC::bD::bE::bF::bG::bH::bI::bJ::bK::bL::bM::bN::bO::bP::bQ::bR::bS::bT::bU::bV::bW::bX::bY::bZ::cA::cB::cC::cD::cE::cF::cG::cH::cI::cJ::cK::cL::cM::cN::cO::cP::cQ::cR::cS::cT::cU::cV::cW::cX::cY::cZ::dA::dB::dC::dD::dE::dF::dG::dH::dI::dJ::dK::dL::dM::dN::dO::dP::dQ::dR::dS::dT::dU::dV::dW::dX::dY::dZ::eA::eB::eC::eD::eE::eF::eG::eH::eI::eJ::eK::eL::eM::eN::eO::eP::eQ::eR::eS::eT::eU::eV::eW::eX::eY::eZ::fA::fB::fC::fD::fE::fF::fG::fH::fI::fJ::fK::fL::fM::fN::fO::fP::fQ::fR::fS::fT::fU::fV::fW::fX::fY::fZ::gA::gB::gC::gD::gE::gF::gG::gH::gI::gJ::gK::gL::gM::gN::gO::gP::gQ::gR::gS::gT::gU::gV::gW::gX::gY::gZ::hA::hB::hC::hD::hE::hF::hG::hI::hK::hL::hM::hN::hO::hQ::hS::hU::hV::hW::hX::hY::hZ::iA::iB::iC::iD::iE::iF::iG::iH::iI::iJ::iK::iL::iM::iN::iO::iP::iQ::iR::iS::iT::iU::iV::iW::iX::iY::iZ::jA::jB::jC::jD::jE::jF::jG::jH::jI::jJ::jK::jL::jM::jN::jO::jP::jQ::jR::.bool three::tS::tT::tU::tV::tW::tX::tY::tZ::uA::uB::uC::uD::uE::uF::uG::uH::uI::uJ::uK::uL::uM::uN::uO::uP::uQ::uR::uS::uT::uU::uV::uW::uX::uY::uZ::vA::vB::vC::vD::vE::vF::vG::vH::vI::vJ::vK::vL::vM::vN::vO::vP::vQ::vR::vS::vT::vU::jS::jT::jU::jV::jW::jX::jY::jZ::kA::kB::kC::kD::kE::kF::kG::kI::kJ::kK::kL::kM::kN::kO::kP::kQ::kS::kT::kU::kV::kW::kX::kY::kZ::lA::lB::lC::lD::lE::lF::lG::lH::lI::lJ::lK::lL::lM::lN::lO::lP::lQ::lR::lS::lT::lU::lV::lW::lX::lY::lZ::mA::mB::mC::mD::mE::mF::mG::mH::mI::mJ::mK::mL::mM::mN::mO::mP::mQ::mR::mS::mT::mU::mV::mW::mX::mY::mZ::nA::nB::nC::nD::nE::nF::nG::nH::nI::nJ::nK::nL::nM::nN::nO::nP::nQ::nR::nS::nT::nU::nV::nW::nX::nY::nZ::oA::oB::oC::oD::oE::oF::oG::oH::oI::oJ::oK::oL::oM::oN::oO::oP::oQ::oR::oS::oT::oU::oV::oW::oX::oY::oZ::pA::pB::pC::pD::pE::pF::pG::pH::pI::pJ::pK::pL::pM::pN::pO::pP::pQ::pR::pS::pT::pU::pV::pW::pX::pY::pZ::qA::qB::qC::qD::qE::qF::qG::qH::qI::qJ::qK::qL::qM::qN::qO::qP::qQ::qR::qS::qT::qU::qV::qW::qX::qY::qZ::rA::rB::rC::rD::rE::rF::rG::rH::rI::[]), []⟩ w') : (piece [1, 1, 1, 1, 1, 1, 1, 1, 1, 1, 1, 1, 1, 1, 1, 1, 1, 1, 0, 1] (Tryz.f3.body.getD .skip)).wp Tryz.prog Q ⟨List.toArray (aA::aB::aC::aD::rJ::.slice Ak l.length ck::.int .i64 s::aE::aF::aG::aH::aI::aJ::aK::aL::.bool can::.bool three::aM::aN::.int .i64 lists::aO::aP::aQ::.int .i64 orders::.bool seven::aR::aS::.slice An none_.length cn::aT::aU::aV::.int .i64 miss::aW::aX::aY::rK::aZ::bA::bB::bC::bD::bE::bF::bG::bH::bI::bJ::bK::bL::bM::bN::bO::bP::bQ::bR::bS::bT::bU::bV::bW::bX::bY::bZ::cA::cB::cC::cD::cE::cF::cG::cH::cI::cJ::cK::cL::cM::cN::cO::cP::cQ::cR::cS::cT::cU::cV::cW::cX::cY::cZ::dA::dB::dC::dD::dE::dF::dG::dH::dI::dJ::dK::dL::dM::dN::dO::dP::dQ::dR::dS::dT::dU::dV::dW::dX::dY::dZ::eA::eB::eC::eD::eE::eF::eG::eH::eI::eJ::eK::eL::eM::eN::eO::eP::eQ::eR::eS::eT::eU::eV::eW::eX::eY::eZ::fA::fB::fC::fD::fE::fF::fG::fH::fI::fJ::fK::fL::fM::fN::fO::fP::fQ::fR::fS::fT::fU::fV::fW::fX::fY::fZ::gA::gB::gC::gD::gE::gF::gG::gH::gI::gJ::gK::gL::gM::gN::gO::gP::gQ::gR::gS::gT::gU::gV::gW::gX::gY::gZ::hA::hB::hC::hD::hE::hF::hG::hI::hK::hL::hM::hN::hO::hQ::hS::hU::hV::hW::hX::hY::hZ::iA::iB::iC::iD::iE::iF::iG::iH::iI::iJ::iK::iL::iM::iN::iO::iP::iQ::iR::iS::iT::iU::iV::iW::iX::iY::iZ::jA::jB::jC::jD::jE::jF::jG::jH::jI::jJ::jK::jL::jM::jN::jO::jP::jQ::jR::.bool three::rL::rM::rN::rO::rP::rQ::rR::rS::rT::rU::rV::rX::rY::rZ::sA::sB::sC::sD::sE::sF::sG::sH::sI::sJ::sK::sL::sM::sN::sO::sP::sQ::sR::sS::sT::sU::sV::sW::sX::sY::sZ::tA::tB::tC::tE::tF::tG::tH::tI::tJ::tK::tL::tM::tN::tO::tP::jS::jT::jU::jV::jW::jX::jY::jZ::kA::kB::kC::kD::kE::kF::kG::kI::kJ::kK::kL::kM::kN::kO::kP::kQ::kS::kT::kU::kV::kW::kX::kY::kZ::lA::lB::lC::lD::lE::lF::lG::lH::lI::lJ::lK::lL::lM::lN::lO::lP::lQ::lR::lS::lT::lU::lV::lW::lX::lY::lZ::mA::mB::mC::mD::mE::mF::mG::mH::mI::mJ::mK::mL::mM::mN::mO::mP::mQ::mR::mS::mT::mU::mV::mW::mX::mY::mZ::nA::nB::nC::nD::nE::nF::nG::nH::nI::nJ::nK::nL::nM::nN::nO::nP::nQ::nR::nS::nT::nU::nV::nW::nX::nY::nZ::oA::oB::oC::oD::oE::oF::oG::oH::oI::oJ::oK::oL::oM::oN::oO::oP::oQ::oR::oS::oT::oU::oV::oW::oX::oY::oZ::pA::pB::pC::pD::pE::pF::pG::pH::pI::pJ::pK::pL::pM::pN::pO::pP::pQ::pR::pS::pT::pU::pV::pW::pX::pY::pZ::qA::qB::qC::qD::qE::qF::qG::qH::qI::qJ::qK::qL::qM::qN::qO::qP::qQ::qR::qS::qT::qU::qV::qW::qX::qY::qZ::rA::rB::rC::rD::rE::rF::rG::rH::rI::[]), []⟩ w := by
  conv => arg 2; whnf
  have HK := Aside0.mk hk
  clear hk
  have HB := Aside0.mk HB0
  clear HB0
  cases three
  · go_wp2
    exact HK.out _ _ _ _ _ _ _ _ _ _ _ _ _ _ _ _ _ _ _ _ _ _ _ _ _ _ _ _ _ _ _ _ _ _ _ _ _ _ _ _ _ _ _ _ _ _ _ _ _ _ _ _ _ _ _ _ _  w HB.out
  · have F := Aside0.mk (hT rfl)
    clear hT
    obtain ⟨kR, hR⟩ := F.out.rises
    obtain ⟨kH, hH⟩ := F.out.has
    obtain ⟨g, hg, g1, g2, m1, m2, e1, e2⟩ := F.out.g
    have h1 := F.out.len
    have hs := F.out.sc
    have p_ : (0 : Int) ≤ (l.length : Int) - 1 := by omega
    have q_ : (l.length : Int) - 1 < (l.length : Int) := by omega
    have w0_ : wrap64 ((l.length : Int) - 1) = (l.length : Int) - 1 := by unfold wrap64; omega
    obtain ⟨J, hJ⟩ : ∃ j, j = (l.length : Int) - 1 := ⟨_, rfl⟩
    rw [← hJ] at p_ q_ hg
    have w1 : wrap64 ((l.length : Int) - 1) = J := by rw [hJ]; exact w0_
    have w2 : IntKind.i64.wrap ((l.length : Int) - 1) = J := by rw [i64_w]; exact w1
    obtain ⟨ad, rfl, hx⟩ := Kd.at_int h5 J p_ q_
    rw [hg] at hx
    have d3 : (J.toNat < l.length) = True := eq_true (by omega)
    clear hJ w0_
    have w3 : wrap64 (miss - 1) = miss - 1 := by unfold wrap64; omega
    have w4 : IntKind.i64.wrap (miss - 1) = miss - 1 := by rw [i64_w]; exact w3
    obtain ⟨P, hP⟩ : ∃ p, p = miss * g := ⟨_, rfl⟩
    obtain ⟨R, hR2⟩ : ∃ p, p = (miss - 1) * g := ⟨_, rfl⟩
    rw [← hP] at e1
    rw [← hR2] at e2
    have pb : P ≤ 201 * g := by rw [hP]; exact Int.mul_le_mul_of_nonneg_right m2 (by omega)
    have rb : 0 ≤ R := by rw [hR2]; exact Int.mul_nonneg (by omega) (by omega)
    have w5 : wrap64 (miss * g) = P := by rw [← hP]; unfold wrap64; omega
    have w6 : IntKind.i64.wrap (miss * g) = P := by rw [i64_w]; exact w5
    have w7 : wrap64 ((miss - 1) * g) = R := by rw [← hR2]; unfold wrap64; omega
    have w8 : IntKind.i64.wrap ((miss - 1) * g) = R := by rw [i64_w]; exact w7
    have c1 : decide (miss < 1) = false := decide_eq_false (by omega)
    have c2 : decide (P ≤ s) = false := decide_eq_false (by omega)
    have c3 : decide (s < R) = false := decide_eq_false (by omega)
    have c4 := F.out.lis
    have d1 := eq_true p_
    have d2 := eq_true q_
    clear h1
    have HRR := Aside0.mk hR
    have HHH := Aside0.mk hH
    have H27 := Aside0.mk h27
    have c5 : seven = true → decide (0 < orders) = can := fun h => (F.out.ord h).1
    have c6 : seven = true → decide (orders < lists) = false := fun h => decide_eq_false (by have := (F.out.ord h).2; omega)
    clear hR hH hP hR2 e1 e2 pb rb hg h5 h27 hs m1 m2 g1 g2 p_ q_
    cases seven
    all_goals
      (try have c7 := c5 rfl)
      (try have c8 := c6 rfl)
      clear c5
      clear c6
      cases can
      all_goals
        go_wp2_with (first
          | (go_at_call 21; (with_reducible refine (laws_bRises.calls kR An cn none_ true _ ?sa b27 HRR.out).mono ?_); (case sa => first | exact H27.out | exact Kd.C_drewN H27.out _); rintro e w1 ⟨rfl, ⟨m1, rfl⟩⟩)
          | (go_at_call 22; (with_reducible refine (laws_bHas.calls kH An cn none_ s _ _ ?sa b27 HHH.out).mono ?_); (case sa => first | exact H27.out | exact Kd.C_drewN H27.out _); rintro e w1 ⟨rfl, ⟨m2, rfl⟩⟩))
        exact HK.out _ _ _ _ _ _ _ _ _ _ _ _ _ _ _ _ _ _ _ _ _ _ _ _ _ _ _ _ _ _ _ _ _ _ _ _ _ _ _ _ _ _ _ _ _ _ _ _ _ _ _ _ _ _ _ _ _  _ (by first | exact HB.out | exact pw_below_drewN HB.out _ | exact pw_below_drewN (pw_below_drewN HB.out _) _)
end Go.Proofs.YthcbaogbncakdaaGreatDoor.QFnGoalsReached
