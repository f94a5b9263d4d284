/- laws.FnDartsFinish's test of valid numbers, walked: it comes out false. Conditions: what the answers hold. -/
import Derived.Test.YtacmfgbeaoalfaacGD0
namespace Go.Proofs.Ytacmfgbeaoalfaa.QFnDartsFinish
open Go.RowKit Go.Proofs.YtacmfgbeaoalfaaW.PrintWords Go.Proofs.YtacmfgbeaoalfaaW.PrintLast Go.Proofs.YtacmfgbeaoalfaaW.PrintMore
set_option linter.unusedVariables false
set_option linter.unusedSimpArgs false
set_option maxHeartbeats 8000000 in
set_option maxRecDepth 1000000 in
theorem p19 (none_ : List Int) (left darts count ways : Int) (can vv score : Bool) (An : Option Addr) (cn : Nat) (w0 : World) (aA aB aC aD aE aF aG aH aI aJ aK aL aM aN aO aP aQ aR aS aT aU aV aX aY aZ bA bB bC bD bE bF bG bH bI bJ bK bL bM bN bO bP bQ bR bS bT bU bV bW bX bY bZ cA cB cC cD cE cF cG cH cI cJ cK cL cM cN cO cP cQ cR cS cT cU cV cW cX cY cZ dA dB dC dD dE dF dG dH dI dJ dK dL dM dN dO dP dQ dR dS dT dU dV dW dX dY dZ eA eB eC eD eE eF eG eH eI eJ eK eL eM eN eO eP eQ eR eS eT eU eV eW eX eY eZ fA fB fC fD fE fF fG fH fI fJ fK fL fM fN fO fP fQ fR fS fT fU fV fW fX fY fZ gA gB gC gD gE gF gG gH gI gJ gK gL gM gN gO gP gQ gR gS gT gU gV gW gX gY gZ hA hB hC hD hE hF hG hI hJ hK hL hM hN hO hP hQ hS hT hU hV hW hX hY hZ iA iB iC iD iE iF iG iH iI iJ iK iL iM iN iO iP iQ sA sB sC sD sE sF sG sH sI sJ sK sL sM sN sO sP sQ sR sS sT sU sV sW sX sY sZ tA tB tC tE tF tG tH tI iR iS iT iU iV iW iX iY iZ jA jB jC jD jE jF jG jH jI jJ jK jL jM jN jO jP jQ jR jS jT jU jV jW jX jY jZ kA kB kC kD kE kF kG kI kJ kK kL kM kN kO kP kQ kS kT kU kV kW kX kY kZ lA lB lC lD lE lF lG lH lI lJ lK lL lM lN lO lP lQ lR lS lT lU lV lW lX lY lZ mA mB mC mD mE mF mG mH mI mJ mK mL mM mN mO mP mQ mR mS mT mU mV mW mX mY mZ nA nB nC nD nE nF nG nH nI nJ nK nL nM nN nO nP nQ nR nS nT nU nV nW nX nY nZ oA oB oC oD oE oF oG oH oI oJ oK oL oM oN oO oP oQ oR oS oT oU oV oW oX oY oZ pA pB pC pD pE pF pG pH pI pJ pK pL pM pN pO pP pQ pR pS pT pU pV pW pX pY pZ qA qB qC qD qE qF qG qH qI qJ qK qL qM qN qO qP qQ qR qS qT qU qV qW qX qY qZ rA rB rC rD rE rF rG rH rI rJ rK rL rM rN rO rP rQ rR rS rT rU rV rW rX rY rZ : Value) (w : World) (Q : Exit → Act → World → Prop)
    (HB0 : Below w0.heap.size w0 w) (F0 : TF left darts can score count ways none_) (h27 : Kd.C (Kd.int .i64) w An none_.length none_) (b27 : none_.length ≤ cn)
    (hk : ∀ (tJ tK tL tM tN tO tP tQ tR tS tT tU tV tW tX tY tZ uA uB uC uD uE uF uG uH uI uJ uK uL uM uN uO uP : Value) (w' : World), Below w0.heap.size w0 w' → Q .normal ⟨List.toArray (aA::aB::aC::aD::aE::.int .i64 left::.int .i64 darts::aF::aG::aH::aI::.bool can::.bool vv::aJ::aK::.int .i64 count::aL::aM::aN::.bool score::aO::aP::aQ::.int .i64 ways::aR::aS::aT::.slice An none_.length cn::aU::aV::aX::aY::aZ::bA::bB::bC::bD::bE::bF::bG::bH::bI::bJ::bK::bL::bM::bN::bO::bP::bQ::bR::bS::bT::bU::bV::bW::bX::bY::bZ::cA::cB::cC::cD::cE::cF::cG::cH::cI::cJ::cK::cL::cM::cN::cO::cP::cQ::cR::cS::cT::cU::cV::cW::cX::cY::cZ::dA::dB::dC::dD::dE::dF::dG::dH::dI::dJ::dK::dL::dM::dN::dO::dP::dQ::dR::dS::dT::dU::dV::dW::dX::dY::dZ::eA::eB::eC::eD::eE::eF::eG::eH::eI::eJ::eK::eL::eM::eN::eO::eP::eQ::eR::eS::eT::eU::eV::eW::eX::eY::eZ::fA::fB::fC::fD::fE::fF::fG::fH::fI::fJ::fK::fL::fM::fN::fO::fP::fQ::fR::fS::fT::fU::fV::fW::fX::fY::fZ::gA::gB::gC::gD::gE::gF::gG::gH::gI::gJ::gK::gL::gM::gN::gO::gP::gQ::gR::gS::gT::gU::gV::gW::gX::gY::gZ::hA::hB::hC::hD::hE::hF::hG::hI::hJ::hK::hL::hM::hN::hO::hP::hQ::hS::hT::hU::hV::hW::hX::hY::hZ::iA::iB::iC::iD::iE::iF::iG::iH::iI::iJ::iK::iL::iM::iN::iO::iP::iQ::tJ::tK::tL::tM::tN::tO::tP::tQ::tR::tS::tT::tU::tV::tW::tX::tY::tZ::uA::uB::uC::uD::uE::uF::uG::uH::uI::uJ::uK::uL::uM::uN::uO::uP::.bool false::iR::iS::iT::iU::iV::iW::iX::iY::iZ::jA::jB::jC::jD::jE::jF::jG::jH::jI::jJ::jK::jL::jM::jN::jO::jP::jQ::jR::jS::jT::jU::jV::jW::jX::jY::jZ::kA::kB::kC::kD::kE::kF::kG::kI::kJ::kK::kL::kM::kN::kO::kP::kQ::kS::kT::kU::kV::kW::kX::kY::kZ::lA::lB::lC::lD::lE::lF::lG::lH::lI::lJ::lK::lL::lM::lN::lO::lP::lQ::lR::lS::lT::lU::lV::lW::lX::lY::lZ::mA::mB::mC::mD::mE::mF::mG::mH::mI::mJ::mK::mL::mM::mN::mO::mP::mQ::mR::mS::mT::mU::mV::mW::mX::mY::mZ::nA::nB::nC::nD::nE::nF::nG::nH::nI::nJ::nK::nL::nM::nN::nO::nP::nQ::nR::nS::nT::nU::nV::nW::nX::nY::nZ::oA::oB::oC::oD::oE::oF::oG::oH::oI::oJ::oK::oL::oM::oN::oO::oP::oQ::oR::oS::oT::oU::oV::oW::oX::oY::oZ::pA::pB::pC::pD::pE::pF::pG::pH::pI::pJ::pK::pL::pM::pN::pO::pP::pQ::pR::pS::pT::pU::pV::pW::pX::pY::pZ::qA::qB::qC::qD::qE::qF::qG::qH::qI::qJ::qK::qL::qM::qN::qO::qP::qQ::qR::qS::qT::qU::qV::qW::qX::qY::qZ::rA::rB::rC::rD::rE::rF::rG::rH::rI::rJ::rK::rL::rM::rN::rO::rP::rQ::rR::rS::rT::rU::rV::rW::rX::rY::rZ::[]), []⟩ w') : (piece [1, 1, 1, 1, 1, 1, 1, 1, 1, 1, 1, 1, 1, 1, 1, 1, 0, 1, 2, 0, 0] (Try.f3.body.getD .skip)).wp Try.prog Q ⟨List.toArray (aA::aB::aC::aD::aE::.int .i64 left::.int .i64 darts::aF::aG::aH::aI::.bool can::.bool vv::aJ::aK::.int .i64 count::aL::aM::aN::.bool score::aO::aP::aQ::.int .i64 ways::aR::aS::aT::.slice An none_.length cn::aU::aV::aX::aY::aZ::bA::bB::bC::bD::bE::bF::bG::bH::bI::bJ::bK::bL::bM::bN::bO::bP::bQ::bR::bS::bT::bU::bV::bW::bX::bY::bZ::cA::cB::cC::cD::cE::cF::cG::cH::cI::cJ::cK::cL::cM::cN::cO::cP::cQ::cR::cS::cT::cU::cV::cW::cX::cY::cZ::dA::dB::dC::dD::dE::dF::dG::dH::dI::dJ::dK::dL::dM::dN::dO::dP::dQ::dR::dS::dT::dU::dV::dW::dX::dY::dZ::eA::eB::eC::eD::eE::eF::eG::eH::eI::eJ::eK::eL::eM::eN::eO::eP::eQ::eR::eS::eT::eU::eV::eW::eX::eY::eZ::fA::fB::fC::fD::fE::fF::fG::fH::fI::fJ::fK::fL::fM::fN::fO::fP::fQ::fR::fS::fT::fU::fV::fW::fX::fY::fZ::gA::gB::gC::gD::gE::gF::gG::gH::gI::gJ::gK::gL::gM::gN::gO::gP::gQ::gR::gS::gT::gU::gV::gW::gX::gY::gZ::hA::hB::hC::hD::hE::hF::hG::hI::hJ::hK::hL::hM::hN::hO::hP::hQ::hS::hT::hU::hV::hW::hX::hY::hZ::iA::iB::iC::iD::iE::iF::iG::iH::iI::iJ::iK::iL::iM::iN::iO::iP::iQ::sA::sB::sC::sD::sE::sF::sG::sH::sI::sJ::sK::sL::sM::sN::sO::sP::sQ::sR::sS::sT::sU::sV::sW::sX::sY::sZ::tA::tB::tC::tE::tF::tG::tH::tI::iR::iS::iT::iU::iV::iW::iX::iY::iZ::jA::jB::jC::jD::jE::jF::jG::jH::jI::jJ::jK::jL::jM::jN::jO::jP::jQ::jR::jS::jT::jU::jV::jW::jX::jY::jZ::kA::kB::kC::kD::kE::kF::kG::kI::kJ::kK::kL::kM::kN::kO::kP::kQ::kS::kT::kU::kV::kW::kX::kY::kZ::lA::lB::lC::lD::lE::lF::lG::lH::lI::lJ::lK::lL::lM::lN::lO::lP::lQ::lR::lS::lT::lU::lV::lW::lX::lY::lZ::mA::mB::mC::mD::mE::mF::mG::mH::mI::mJ::mK::mL::mM::mN::mO::mP::mQ::mR::mS::mT::mU::mV::mW::mX::mY::mZ::nA::nB::nC::nD::nE::nF::nG::nH::nI::nJ::nK::nL::nM::nN::nO::nP::nQ::nR::nS::nT::nU::nV::nW::nX::nY::nZ::oA::oB::oC::oD::oE::oF::oG::oH::oI::oJ::oK::oL::oM::oN::oO::oP::oQ::oR::oS::oT::oU::oV::oW::oX::oY::oZ::pA::pB::pC::pD::pE::pF::pG::pH::pI::pJ::pK::pL::pM::pN::pO::pP::pQ::pR::pS::pT::pU::pV::pW::pX::pY::pZ::qA::qB::qC::qD::qE::qF::qG::qH::qI::qJ::qK::qL::qM::qN::qO::qP::qQ::qR::qS::qT::qU::qV::qW::qX::qY::qZ::rA::rB::rC::rD::rE::rF::rG::rH::rI::rJ::rK::rL::rM::rN::rO::rP::rQ::rR::rS::rT::rU::rV::rW::rX::rY::rZ::[]), []⟩ w := by
  conv => arg 2; whnf
  have HK := Aside0.mk hk
  clear hk
  have HB := Aside0.mk HB0
  clear HB0
  have F := Aside0.mk F0
  clear F0
  obtain ⟨kR, hR⟩ := F.out.rises
  obtain ⟨kH, hH⟩ := F.out.has
  have c1 := F.out.sc
  have c2 : decide (ways < count) = false := decide_eq_false (by have := F.out.le; omega)
  have hp := F.out.pos
  obtain ⟨cp, hcp⟩ : ∃ b, decide (0 < count) = b := ⟨_, rfl⟩
  obtain ⟨lv, hlv⟩ : ∃ b, decide (1 < left) = b := ⟨_, rfl⟩
  rw [hlv] at hH
  have hp2 : cp = true → can = true := fun h => hp (of_decide_eq_true (hcp.trans h))
  clear hp
  have HR := Aside0.mk hR
  have HH := Aside0.mk hH
  have H27 := Aside0.mk h27
  clear hR hH h27
  cases score
  all_goals
    cases cp
    all_goals
      cases can
      all_goals
        first
          | exact absurd (hp2 rfl) (by decide)
          | (clear hp2
             cases lv
             all_goals
               go_wp2_with (first
                 | (go_at_call 20; (with_reducible refine (laws_bRises.calls kR An cn none_ true _ ?sa b27 HR.out).mono ?_); (case sa => first | exact H27.out | exact Kd.C_drewN H27.out _ | exact Kd.C_drewN (Kd.C_drewN H27.out _) _ | exact Kd.C_drewN (Kd.C_drewN (Kd.C_drewN H27.out _) _) _); rintro e w1 ⟨rfl, ⟨m1, rfl⟩⟩)
                 | (go_at_call 21; (with_reducible refine (laws_bHas.calls kH An cn none_ left _ _ ?sa b27 HH.out).mono ?_); (case sa => first | exact H27.out | exact Kd.C_drewN H27.out _ | exact Kd.C_drewN (Kd.C_drewN H27.out _) _ | exact Kd.C_drewN (Kd.C_drewN (Kd.C_drewN H27.out _) _) _); rintro e w1 ⟨rfl, ⟨m2, rfl⟩⟩))
               exact HK.out _ _ _ _ _ _ _ _ _ _ _ _ _ _ _ _ _ _ _ _ _ _ _ _ _ _ _ _ _ _ _ _ _  _ (by first | exact HB.out | exact pw_below_drewN HB.out _ | exact pw_below_drewN (pw_below_drewN HB.out _) _ | exact pw_below_drewN (pw_below_drewN (pw_below_drewN HB.out _) _) _ | exact pw_below_drewN (pw_below_drewN (pw_below_drewN (pw_below_drewN HB.out _) _) _) _))
end Go.Proofs.Ytacmfgbeaoalfaa.QFnDartsFinish
