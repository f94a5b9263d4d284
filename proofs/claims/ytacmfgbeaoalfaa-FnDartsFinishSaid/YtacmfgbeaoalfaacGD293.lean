/- laws.FnDartsFinish's block of a first finish, walked: nothing in it comes out false. Conditions: what the finish holds. -/
import Derived.Test.YtacmfgbeaoalfaacGD0
namespace Go.Proofs.Ytacmfgbeaoalfaa.QFnDartsFinish
open Go.RowKit Go.Proofs.YtacmfgbeaoalfaaW.PrintWords Go.Proofs.YtacmfgbeaoalfaaW.PrintLast Go.Proofs.YtacmfgbeaoalfaaW.PrintMore
set_option linter.unusedVariables false
set_option linter.unusedSimpArgs false
set_option maxHeartbeats 8000000 in
set_option maxRecDepth 1000000 in
theorem b293 (left darts : Int) (first : List S43) (ok : Bool) (Af : Option Addr) (cf : Nat) (w0 : World) (aA aB aC aD qL aE aF aG aH aI aJ aK aL aM aN aO aP aQ aR aS aT aU aV aX aY aZ bA bB bC qM qN qO qP qQ qR qS qT bD bE bF bG bH bI bJ bK bL bM bN bO bP bQ bR bS bT bU bV bW bX bY bZ cA cB cC cD cE cF cG cH cI cJ cK cL cM cN cO cP cQ cR cS cT cU cV cW cX cY cZ dA dB dC dD dE dF dG dH dI dJ dK dL dM dN dO dP dQ dR dS dT dU dV dW dX dY dZ eA eB eC eD eE eF eG eH eI eJ eK eL eM eN eO eP eQ eR eS eT eU eV eW eX eY eZ fA fB fC fD fE fF fG fH fI fJ fK fL fM fN fO fP fQ fR fS fT fU fV fW fX fY fZ gA gB gC gD gE gF gG gH gI gJ gK gL gM gN gO gP gQ gR gS gT gU gV gW gX gY gZ hB hC hD hE hF hG hH hK hM hN hP hQ hR hS hT hU hV hW hX hY hZ iA iB iC iD iE iF iG iH iI iJ iK iL iM iN iO iP iQ iR iS iT iU iV iW iX iY iZ jA jB jC jD jE jF jG jH jI jJ jK jL jM jN jO jP jQ jR jS jT jU jV jW jX jY jZ kB kC kD kE kF kG kH kJ kK kM kN kO kP kQ kR kS kT kU kV kW kX kY kZ lA lB lC qU qV qW qX qY qZ rA rB rC rD rE rF rG rH rI rJ rK rL rM rN rO rP rQ rR rS rT rU rV rW rX rY rZ sA sB sC sD sE sF sG sH sI sJ sK sL sM sN sO sP sQ sR sS sT sU sV sW sX sY sZ tA tB tC tE tF tG tH tI tJ tK tL tM tN tO tP lD lE lF lG lH lI lJ lK lL lM lN lO lP lQ lR lS lT lU lV lW lX lY lZ mA mB mC mD mE mF mG mH mI mJ mK mL mM mN mO mP mQ mR mS mT mU mV mW mX mY mZ nA nB nC nD nE nF nG nH nI nJ nK nL nM nN nO nP nQ nR nS nT nU nV nW nX nY nZ oA oB oC oD oE oF oG oH oI oJ oK oL oM oN oO oP oQ oR oS oT oU oV oW oX oY oZ pA pB pC pD pE pF pG pH pI pJ pK pL pM pN pO pP pQ pR pS pT pU pV pW pX pY pZ qA qB qC qD qE qF qG qH qI qJ qK : Value) (w : World) (Q : Exit → Act → World → Prop)
    (HB0 : Below w0.heap.size w0 w) (hO : ok = true → OF left darts first) (h7 : Kd.C k43 w Af first.length first) (b7 : first.length ≤ cf)
    (hk : ∀ (tQ tR tS tT tU tV tW tX tY tZ uA uB uC uD uE uF uG uH uI uJ uK uL uM uN uO uP uQ uR uS uT uU uV uW uX uY uZ vA vB vC vD vE vF vG vH vI vJ vK vL vM vN vO vP vQ vR vS vT vU vV vW vX vY vZ wA wB wC wD wE wF wG wH wI wJ wK wL wM wO wP wQ wR wS wT wU : Value) (w' : World), Below w0.heap.size w0 w' → Q .normal ⟨List.toArray (aA::aB::aC::aD::tQ::.int .i64 left::.int .i64 darts::.slice Af first.length cf::.bool ok::aE::aF::aG::aH::aI::aJ::aK::aL::aM::aN::aO::aP::aQ::aR::aS::aT::aU::aV::aX::aY::aZ::bA::bB::bC::tR::tS::tT::tU::tV::tW::tX::tY::bD::bE::bF::bG::bH::bI::bJ::bK::bL::bM::bN::bO::bP::bQ::bR::bS::bT::bU::bV::bW::bX::bY::bZ::cA::cB::cC::cD::cE::cF::cG::cH::cI::cJ::cK::cL::cM::cN::cO::cP::cQ::cR::cS::cT::cU::cV::cW::cX::cY::cZ::dA::dB::dC::dD::dE::dF::dG::dH::dI::dJ::dK::dL::dM::dN::dO::dP::dQ::dR::dS::dT::dU::dV::dW::dX::dY::dZ::eA::eB::eC::eD::eE::eF::eG::eH::eI::eJ::eK::eL::eM::eN::eO::eP::eQ::eR::eS::eT::eU::eV::eW::eX::eY::eZ::fA::fB::fC::fD::fE::fF::fG::fH::fI::fJ::fK::fL::fM::fN::fO::fP::fQ::fR::fS::fT::fU::fV::fW::fX::fY::fZ::gA::gB::gC::gD::gE::gF::gG::gH::gI::gJ::gK::gL::gM::gN::gO::gP::gQ::gR::gS::gT::gU::gV::gW::gX::gY::gZ::hB::hC::hD::hE::hF::hG::hH::hK::hM::hN::hP::hQ::hR::hS::hT::hU::hV::hW::hX::hY::hZ::iA::iB::iC::iD::iE::iF::iG::iH::iI::iJ::iK::iL::iM::iN::iO::iP::iQ::iR::iS::iT::iU::iV::iW::iX::iY::iZ::jA::jB::jC::jD::jE::jF::jG::jH::jI::jJ::jK::jL::jM::jN::jO::jP::jQ::jR::jS::jT::jU::jV::jW::jX::jY::jZ::kB::kC::kD::kE::kF::kG::kH::kJ::kK::kM::kN::kO::kP::kQ::kR::kS::kT::kU::kV::kW::kX::kY::kZ::lA::lB::lC::.bool ok::tZ::uA::uB::uC::uD::uE::uF::uG::uH::uI::uJ::uK::uL::uM::uN::uO::uP::uQ::uR::uS::uT::uU::uV::uW::uX::uY::uZ::vA::vB::vC::vD::vE::vF::vG::vH::vI::vJ::vK::vL::vM::vN::vO::vP::vQ::vR::vS::vT::vU::vV::vW::vX::vY::vZ::wA::wB::wC::wD::wE::wF::wG::wH::wI::wJ::wK::wL::wM::wO::wP::wQ::wR::wS::wT::wU::lD::lE::lF::lG::lH::lI::lJ::lK::lL::lM::lN::lO::lP::lQ::lR::lS::lT::lU::lV::lW::lX::lY::lZ::mA::mB::mC::mD::mE::mF::mG::mH::mI::mJ::mK::mL::mM::mN::mO::mP::mQ::mR::mS::mT::mU::mV::mW::mX::mY::mZ::nA::nB::nC::nD::nE::nF::nG::nH::nI::nJ::nK::nL::nM::nN::nO::nP::nQ::nR::nS::nT::nU::nV::nW::nX::nY::nZ::oA::oB::oC::oD::oE::oF::oG::oH::oI::oJ::oK::oL::oM::oN::oO::oP::oQ::oR::oS::oT::oU::oV::oW::oX::oY::oZ::pA::pB::pC::pD::pE::pF::pG::pH::pI::pJ::pK::pL::pM::pN::pO::pP::pQ::pR::pS::pT::pU::pV::pW::pX::pY::pZ::qA::qB::qC::qD::qE::qF::qG::qH::qI::qJ::qK::[]), []⟩ w') : (piece [1, 1, 1, 1, 1, 1, 1, 1, 1, 1, 1, 1, 1, 1, 1, 1, 1, 0, 1] (Try.f3.body.getD .skip)).wp Try.prog Q ⟨List.toArray (aA::aB::aC::aD::qL::.int .i64 left::.int .i64 darts::.slice Af first.length cf::.bool ok::aE::aF::aG::aH::aI::aJ::aK::aL::aM::aN::aO::aP::aQ::aR::aS::aT::aU::aV::aX::aY::aZ::bA::bB::bC::qM::qN::qO::qP::qQ::qR::qS::qT::bD::bE::bF::bG::bH::bI::bJ::bK::bL::bM::bN::bO::bP::bQ::bR::bS::bT::bU::bV::bW::bX::bY::bZ::cA::cB::cC::cD::cE::cF::cG::cH::cI::cJ::cK::cL::cM::cN::cO::cP::cQ::cR::cS::cT::cU::cV::cW::cX::cY::cZ::dA::dB::dC::dD::dE::dF::dG::dH::dI::dJ::dK::dL::dM::dN::dO::dP::dQ::dR::dS::dT::dU::dV::dW::dX::dY::dZ::eA::eB::eC::eD::eE::eF::eG::eH::eI::eJ::eK::eL::eM::eN::eO::eP::eQ::eR::eS::eT::eU::eV::eW::eX::eY::eZ::fA::fB::fC::fD::fE::fF::fG::fH::fI::fJ::fK::fL::fM::fN::fO::fP::fQ::fR::fS::fT::fU::fV::fW::fX::fY::fZ::gA::gB::gC::gD::gE::gF::gG::gH::gI::gJ::gK::gL::gM::gN::gO::gP::gQ::gR::gS::gT::gU::gV::gW::gX::gY::gZ::hB::hC::hD::hE::hF::hG::hH::hK::hM::hN::hP::hQ::hR::hS::hT::hU::hV::hW::hX::hY::hZ::iA::iB::iC::iD::iE::iF::iG::iH::iI::iJ::iK::iL::iM::iN::iO::iP::iQ::iR::iS::iT::iU::iV::iW::iX::iY::iZ::jA::jB::jC::jD::jE::jF::jG::jH::jI::jJ::jK::jL::jM::jN::jO::jP::jQ::jR::jS::jT::jU::jV::jW::jX::jY::jZ::kB::kC::kD::kE::kF::kG::kH::kJ::kK::kM::kN::kO::kP::kQ::kR::kS::kT::kU::kV::kW::kX::kY::kZ::lA::lB::lC::.bool ok::qU::qV::qW::qX::qY::qZ::rA::rB::rC::rD::rE::rF::rG::rH::rI::rJ::rK::rL::rM::rN::rO::rP::rQ::rR::rS::rT::rU::rV::rW::rX::rY::rZ::sA::sB::sC::sD::sE::sF::sG::sH::sI::sJ::sK::sL::sM::sN::sO::sP::sQ::sR::sS::sT::sU::sV::sW::sX::sY::sZ::tA::tB::tC::tE::tF::tG::tH::tI::tJ::tK::tL::tM::tN::tO::tP::lD::lE::lF::lG::lH::lI::lJ::lK::lL::lM::lN::lO::lP::lQ::lR::lS::lT::lU::lV::lW::lX::lY::lZ::mA::mB::mC::mD::mE::mF::mG::mH::mI::mJ::mK::mL::mM::mN::mO::mP::mQ::mR::mS::mT::mU::mV::mW::mX::mY::mZ::nA::nB::nC::nD::nE::nF::nG::nH::nI::nJ::nK::nL::nM::nN::nO::nP::nQ::nR::nS::nT::nU::nV::nW::nX::nY::nZ::oA::oB::oC::oD::oE::oF::oG::oH::oI::oJ::oK::oL::oM::oN::oO::oP::oQ::oR::oS::oT::oU::oV::oW::oX::oY::oZ::pA::pB::pC::pD::pE::pF::pG::pH::pI::pJ::pK::pL::pM::pN::pO::pP::pQ::pR::pS::pT::pU::pV::pW::pX::pY::pZ::qA::qB::qC::qD::qE::qF::qG::qH::qI::qJ::qK::[]), []⟩ w := by
  conv => arg 2; whnf
  have HK := Aside0.mk hk
  clear hk
  have HB := Aside0.mk HB0
  clear HB0
  cases ok
  · go_wp2
    exact HK.out _ _ _ _ _ _ _ _ _ _ _ _ _ _ _ _ _ _ _ _ _ _ _ _ _ _ _ _ _ _ _ _ _ _ _ _ _ _ _ _ _ _ _ _ _ _ _ _ _ _ _ _ _ _ _ _ _ _ _ _ _ _ _ _ _ _ _ _ _ _ _ _ _ _ _ _ _ _ _ _ _ _  w HB.out
  · have F := Aside0.mk (hO rfl)
    clear hO
    obtain ⟨kA, hA⟩ := F.out.all
    obtain ⟨kL, hL⟩ := F.out.la
    obtain ⟨kI, hI⟩ := F.out.ib
    obtain ⟨l1, l2, l3⟩ := F.out.len
    have HA := Aside0.mk hA
    have HL := Aside0.mk hL
    have HI := Aside0.mk hI
    have H7 := Aside0.mk h7
    have HW := Aside0.mk F.out.few
    clear hA hL hI h7
    have e1 : (left == left) = true := beq_self_eq_true _
    have e2 : ((first.length : Int) == (first.length : Int)) = true := beq_self_eq_true _
    have e2' : (first.length == first.length) = true := beq_self_eq_true _
    have c1 : decide ((first.length : Int) < 1) = false := decide_eq_false (by omega)
    have c1' : decide (first.length < 1) = false := decide_eq_false (by omega)
    have c2 : decide (darts < (first.length : Int)) = false := decide_eq_false (by omega)
    have p_ : (0 : Int) ≤ (first.length : Int) - 1 := by omega
    have q_ : (first.length : Int) - 1 < (first.length : Int) := by omega
    have w0_ : wrap64 ((first.length : Int) - 1) = (first.length : Int) - 1 := by unfold wrap64; omega
    obtain ⟨J, hJ⟩ : ∃ j, j = (first.length : Int) - 1 := ⟨_, rfl⟩
    have hl2 := F.out.last
    rw [← hJ] at p_ q_ hl2
    have w1 : wrap64 ((first.length : Int) - 1) = J := by rw [hJ]; exact w0_
    have w2 : IntKind.i64.wrap ((first.length : Int) - 1) = J := by rw [i64_w]; exact w1
    have PQ := Aside0.mk (And.intro p_ q_)
    have d1 := eq_true p_
    have d2 := eq_true q_
    have d3 : (J.toNat < first.length) = True := eq_true (by omega)
    have HL2 := Aside0.mk hl2
    clear l1 l2 l3 hJ w0_ p_ q_ hl2 F
    go_upto_region 28 with (first
      | (go_at_call 22; (with_reducible refine (laws_bAll.calls kA Af cf first left true _ H7.out b7 HA.out).mono ?_); rintro e w1 ⟨rfl, hb⟩; have HB2 := Aside0.mk (below_step HB.out hb); have H72 := Aside0.mk (Kd.C_below H7.out hb); clear HB H7 hb; have HB := HB2; have H7 := H72; clear HB2 H72)
      | (go_at_call 23; (with_reducible refine (impl_FewestDarts.calls left _ _ _ HW.out).mono ?_); rintro e w1 ⟨rfl, hb⟩; have HB2 := Aside0.mk (below_step HB.out hb); have H72 := Aside0.mk (Kd.C_below H7.out hb); clear HB H7 hb; have HB := HB2; have H7 := H72; clear HB2 H72))
    obtain ⟨ad, rfl, hx0, hx1⟩ := at_T43 H7.out J PQ.out.1 PQ.out.2
    rw [HL2.out] at hx1
    go_upto_region 30 with fail
    clear hx0 hx1
    go_wp2_with (first
      | (go_at_call 24; (with_reducible refine (impl_LeftAfter.calls kL left _ cf first 0 true _ ?sa b7 HL.out).mono ?_); (case sa => first | exact H7.out | exact Kd.C_drewN H7.out _ | exact Kd.C_drewN (Kd.C_drewN H7.out _) _ | exact Kd.C_drewN (Kd.C_drewN (Kd.C_drewN H7.out _) _) _); rintro e w1 ⟨rfl, hb⟩; have HB2 := Aside0.mk (below_step HB.out hb); have H72 := Aside0.mk (Kd.C_below H7.out hb); clear HB H7 hb; have HB := HB2; have H7 := H72; clear HB2 H72)
      | (go_at_call 25; (with_reducible refine (impl_IsBust.calls kI left _ cf first false true _ ?sa b7 HI.out).mono ?_); (case sa => first | exact H7.out | exact Kd.C_drewN H7.out _ | exact Kd.C_drewN (Kd.C_drewN H7.out _) _ | exact Kd.C_drewN (Kd.C_drewN (Kd.C_drewN H7.out _) _) _); rintro e w1 ⟨rfl, hb⟩; have HB2 := Aside0.mk (below_step HB.out hb); have H72 := Aside0.mk (Kd.C_below H7.out hb); clear HB H7 hb; have HB := HB2; have H7 := H72; clear HB2 H72))
    exact HK.out _ _ _ _ _ _ _ _ _ _ _ _ _ _ _ _ _ _ _ _ _ _ _ _ _ _ _ _ _ _ _ _ _ _ _ _ _ _ _ _ _ _ _ _ _ _ _ _ _ _ _ _ _ _ _ _ _ _ _ _ _ _ _ _ _ _ _ _ _ _ _ _ _ _ _ _ _ _ _ _ _ _  _ (by first | exact HB.out | exact pw_below_drewN HB.out _ | exact pw_below_drewN (pw_below_drewN HB.out _) _ | exact pw_below_drewN (pw_below_drewN (pw_below_drewN HB.out _) _) _ | exact pw_below_drewN (pw_below_drewN (pw_below_drewN (pw_below_drewN HB.out _) _) _) _)
end Go.Proofs.Ytacmfgbeaoalfaa.QFnDartsFinish
