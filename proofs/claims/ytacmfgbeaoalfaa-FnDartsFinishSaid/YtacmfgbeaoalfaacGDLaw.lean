/- laws.FnDartsFinish, walked along the answers that are known: it returns true. Conditions: what each function answers, named. -/
import Derived.Test.YtacmfgbeaoalfaacGD16
import Derived.Test.YtacmfgbeaoalfaacGD19
import Derived.Test.YtacmfgbeaoalfaacGD265
import Derived.Test.YtacmfgbeaoalfaacGD293
import Derived.Test.YtacmfgbeaoalfaacGD42
namespace Go.Proofs.Ytacmfgbeaoalfaa.QFnDartsFinish
open Go.RowKit Go.Proofs.YtacmfgbeaoalfaaW.PrintWords Go.Proofs.YtacmfgbeaoalfaaW.PrintLast Go.Proofs.YtacmfgbeaoalfaaW.PrintMore
set_option linter.unusedVariables false
set_option linter.unusedSimpArgs false
set_option maxHeartbeats 8000000 in
set_option maxRecDepth 1000000 in
theorem b229 (none_ : List Int) (left darts count ways : Int) (can vv score : Bool) (An : Option Addr) (cn : Nat) (w0 : World) (aB aC aD aE rA aF aG aH aI aJ aK aL aM aN aO aP aQ aR aS aT aU aV aX rB rC aY aZ bA bB bC bD bE bF bG bH bI bJ bK bL bM bN bO bP bQ bR bS bT bU bV bW bX bY bZ cA cB cC cD cE cF cG cH cI cJ cK cL cM cN cO cP cQ cR cS cT cU cV cW cX cY cZ dA dB dC dD dE dF dG dH dI dJ dL dM dO dP dQ dR dS dT dU dV dW dX dY dZ eA eB eC eD eE eF eG eH eI eJ eK eL eM eN eO eP eQ eS eT eU eV eW eX eY eZ fA fB fC fD fE fF fG fH fI fJ fK fL fM fN fO fP fQ fR fS fT fU fV fW fX fY fZ gA gB gC gD gE gF gG gH gI gJ gK gL gM gN gO gP gQ gR gS gT gU gV gW gX gY gZ hA hB hD hE hG hH hI hJ hK hL hM hO hP hQ hS hU hV hW hX hY hZ iA iB iC iD iE iF iG iH iI iJ iK iL iM iN iO iP iQ iR iS iT rD rE rF rG rH rI rJ rK rL rM rN rO rP rQ rR rS rT rU rV rW rX rY rZ sA sB sC sD sE sG sH sI sJ sK sL sM sO sP sQ sR sS sT sU sV sW sX sY sZ tA tB tC tE tF tG tH tI tJ tK tL tM tN tO tP tQ iU iV iW iX iY iZ jA jB jC jD jE jF jG jH jI jJ jK jL jM jN jO jP jQ jR jS jT jU jV jW jX jY jZ kA kB kC kD kE kG kH kI kJ kK kL kM kO kP kQ kR kS kT kU kV kW kX kY kZ lA lB lC lD lE lF lG lH lI lJ lK lL lM lN lO lP lQ lR lS lT lU lV lW lX lY lZ mA mB mC mD mE mF mG mH mI mJ mK mL mM mN mO mP mQ mR mS mT mU mV mW mX mY mZ nA nB nC nD nE nF nG nH nI nJ nK nL nM nN nO nP nQ nR nS nT nU nV nW nX nY nZ oA oB oC oD oE oF oG oH oI oJ oK oL oM oN oO oP oQ oR oS oT oU oV oW oX oY oZ pA pB pC pD pE pF pG pH pI pJ pK pL pM pN pO pP pQ pR pS pT pU pV pW pX pY pZ qA qB qC qD qE qF qG qH qI qJ qK qL qM qN qO qP qQ qR qS qT qU qV qW qX qY qZ : Value) (w : World) (Q : Exit → Act → World → Prop)
    (HB0 : Below w0.heap.size w0 w) (hT : vv = true → TF left darts can score count ways none_) (h27 : Kd.C (Kd.int .i64) w An none_.length none_) (b27 : none_.length ≤ cn)
    (hk : ∀ (tR tS tT tU tV tW tX tY tZ uA uB uC uD uE uF uG uH uI uJ uK uL uM uN uO uP uQ uR uS uT uU uV uW uX uY uZ vA vB vC vD vE vF vG vH vI vJ vK vL vM vN vO vP vQ vR vS vT vU vV vW vX vY vZ wA wB wC wD wE : Value) (w' : World), Below w0.heap.size w0 w' → Q .normal ⟨List.toArray (aB::aC::aD::aE::tR::.int .i64 left::.int .i64 darts::aF::aG::aH::aI::.bool can::.bool vv::aJ::aK::.int .i64 count::aL::aM::aN::.bool score::aO::aP::aQ::.int .i64 ways::aR::aS::aT::.slice An none_.length cn::aU::aV::aX::tS::tT::aY::aZ::bA::bB::bC::bD::bE::bF::bG::bH::bI::bJ::bK::bL::bM::bN::bO::bP::bQ::bR::bS::bT::bU::bV::bW::bX::bY::bZ::cA::cB::cC::cD::cE::cF::cG::cH::cI::cJ::cK::cL::cM::cN::cO::cP::cQ::cR::cS::cT::cU::cV::cW::cX::cY::cZ::dA::dB::dC::dD::dE::dF::dG::dH::dI::dJ::dL::dM::dO::dP::dQ::dR::dS::dT::dU::dV::dW::dX::dY::dZ::eA::eB::eC::eD::eE::eF::eG::eH::eI::eJ::eK::eL::eM::eN::eO::eP::eQ::eS::eT::eU::eV::eW::eX::eY::eZ::fA::fB::fC::fD::fE::fF::fG::fH::fI::fJ::fK::fL::fM::fN::fO::fP::fQ::fR::fS::fT::fU::fV::fW::fX::fY::fZ::gA::gB::gC::gD::gE::gF::gG::gH::gI::gJ::gK::gL::gM::gN::gO::gP::gQ::gR::gS::gT::gU::gV::gW::gX::gY::gZ::hA::hB::hD::hE::hG::hH::hI::hJ::hK::hL::hM::hO::hP::hQ::hS::hU::hV::hW::hX::hY::hZ::iA::iB::iC::iD::iE::iF::iG::iH::iI::iJ::iK::iL::iM::iN::iO::iP::iQ::iR::iS::iT::.bool vv::tU::tV::tW::tX::tY::tZ::uA::uB::uC::uD::uE::uF::uG::uH::uI::uJ::uK::uL::uM::uN::uO::uP::uQ::uR::uS::uT::uU::uV::uW::uX::uY::uZ::vA::vB::vC::vD::vE::vF::vG::vH::vI::vJ::vK::vL::vM::vN::vO::vP::vQ::vR::vS::vT::vU::vV::vW::vX::vY::vZ::wA::wB::wC::wD::wE::iU::iV::iW::iX::iY::iZ::jA::jB::jC::jD::jE::jF::jG::jH::jI::jJ::jK::jL::jM::jN::jO::jP::jQ::jR::jS::jT::jU::jV::jW::jX::jY::jZ::kA::kB::kC::kD::kE::kG::kH::kI::kJ::kK::kL::kM::kO::kP::kQ::kR::kS::kT::kU::kV::kW::kX::kY::kZ::lA::lB::lC::lD::lE::lF::lG::lH::lI::lJ::lK::lL::lM::lN::lO::lP::lQ::lR::lS::lT::lU::lV::lW::lX::lY::lZ::mA::mB::mC::mD::mE::mF::mG::mH::mI::mJ::mK::mL::mM::mN::mO::mP::mQ::mR::mS::mT::mU::mV::mW::mX::mY::mZ::nA::nB::nC::nD::nE::nF::nG::nH::nI::nJ::nK::nL::nM::nN::nO::nP::nQ::nR::nS::nT::nU::nV::nW::nX::nY::nZ::oA::oB::oC::oD::oE::oF::oG::oH::oI::oJ::oK::oL::oM::oN::oO::oP::oQ::oR::oS::oT::oU::oV::oW::oX::oY::oZ::pA::pB::pC::pD::pE::pF::pG::pH::pI::pJ::pK::pL::pM::pN::pO::pP::pQ::pR::pS::pT::pU::pV::pW::pX::pY::pZ::qA::qB::qC::qD::qE::qF::qG::qH::qI::qJ::qK::qL::qM::qN::qO::qP::qQ::qR::qS::qT::qU::qV::qW::qX::qY::qZ::[]), []⟩ w') : (piece [1, 1, 1, 1, 1, 1, 1, 1, 1, 1, 1, 1, 1, 1, 1, 1, 0, 1] (Try.f3.body.getD .skip)).wp Try.prog Q ⟨List.toArray (aB::aC::aD::aE::rA::.int .i64 left::.int .i64 darts::aF::aG::aH::aI::.bool can::.bool vv::aJ::aK::.int .i64 count::aL::aM::aN::.bool score::aO::aP::aQ::.int .i64 ways::aR::aS::aT::.slice An none_.length cn::aU::aV::aX::rB::rC::aY::aZ::bA::bB::bC::bD::bE::bF::bG::bH::bI::bJ::bK::bL::bM::bN::bO::bP::bQ::bR::bS::bT::bU::bV::bW::bX::bY::bZ::cA::cB::cC::cD::cE::cF::cG::cH::cI::cJ::cK::cL::cM::cN::cO::cP::cQ::cR::cS::cT::cU::cV::cW::cX::cY::cZ::dA::dB::dC::dD::dE::dF::dG::dH::dI::dJ::dL::dM::dO::dP::dQ::dR::dS::dT::dU::dV::dW::dX::dY::dZ::eA::eB::eC::eD::eE::eF::eG::eH::eI::eJ::eK::eL::eM::eN::eO::eP::eQ::eS::eT::eU::eV::eW::eX::eY::eZ::fA::fB::fC::fD::fE::fF::fG::fH::fI::fJ::fK::fL::fM::fN::fO::fP::fQ::fR::fS::fT::fU::fV::fW::fX::fY::fZ::gA::gB::gC::gD::gE::gF::gG::gH::gI::gJ::gK::gL::gM::gN::gO::gP::gQ::gR::gS::gT::gU::gV::gW::gX::gY::gZ::hA::hB::hD::hE::hG::hH::hI::hJ::hK::hL::hM::hO::hP::hQ::hS::hU::hV::hW::hX::hY::hZ::iA::iB::iC::iD::iE::iF::iG::iH::iI::iJ::iK::iL::iM::iN::iO::iP::iQ::iR::iS::iT::.bool vv::rD::rE::rF::rG::rH::rI::rJ::rK::rL::rM::rN::rO::rP::rQ::rR::rS::rT::rU::rV::rW::rX::rY::rZ::sA::sB::sC::sD::sE::sG::sH::sI::sJ::sK::sL::sM::sO::sP::sQ::sR::sS::sT::sU::sV::sW::sX::sY::sZ::tA::tB::tC::tE::tF::tG::tH::tI::tJ::tK::tL::tM::tN::tO::tP::tQ::iU::iV::iW::iX::iY::iZ::jA::jB::jC::jD::jE::jF::jG::jH::jI::jJ::jK::jL::jM::jN::jO::jP::jQ::jR::jS::jT::jU::jV::jW::jX::jY::jZ::kA::kB::kC::kD::kE::kG::kH::kI::kJ::kK::kL::kM::kO::kP::kQ::kR::kS::kT::kU::kV::kW::kX::kY::kZ::lA::lB::lC::lD::lE::lF::lG::lH::lI::lJ::lK::lL::lM::lN::lO::lP::lQ::lR::lS::lT::lU::lV::lW::lX::lY::lZ::mA::mB::mC::mD::mE::mF::mG::mH::mI::mJ::mK::mL::mM::mN::mO::mP::mQ::mR::mS::mT::mU::mV::mW::mX::mY::mZ::nA::nB::nC::nD::nE::nF::nG::nH::nI::nJ::nK::nL::nM::nN::nO::nP::nQ::nR::nS::nT::nU::nV::nW::nX::nY::nZ::oA::oB::oC::oD::oE::oF::oG::oH::oI::oJ::oK::oL::oM::oN::oO::oP::oQ::oR::oS::oT::oU::oV::oW::oX::oY::oZ::pA::pB::pC::pD::pE::pF::pG::pH::pI::pJ::pK::pL::pM::pN::pO::pP::pQ::pR::pS::pT::pU::pV::pW::pX::pY::pZ::qA::qB::qC::qD::qE::qF::qG::qH::qI::qJ::qK::qL::qM::qN::qO::qP::qQ::qR::qS::qT::qU::qV::qW::qX::qY::qZ::[]), []⟩ w := by
  conv => arg 2; whnf
  have HK := Aside0.mk hk
  clear hk
  have HB := Aside0.mk HB0
  clear HB0
  cases vv
  · go_wp2
    exact HK.out _ _ _ _ _ _ _ _ _ _ _ _ _ _ _ _ _ _ _ _ _ _ _ _ _ _ _ _ _ _ _ _ _ _ _ _ _ _ _ _ _ _ _ _ _ _ _ _ _ _ _ _ _ _ _ _ _ _ _ _ _ _ _ _ _ _  w HB.out
  · have F := Aside0.mk (hT rfl)
    clear hT
    have H27 := Aside0.mk h27
    clear h27
    go_upto_region 19 with fail
    rename_i K_ hK_
    refine p19 none_ left darts count ways can true score An cn _ _ _ _ _ _ _ _ _ _ _ _ _ _ _ _ _ _ _ _ _ _ _ _ _ _ _ _ _ _ _ _ _ _ _ _ _ _ _ _ _ _ _ _ _ _ _ _ _ _ _ _ _ _ _ _ _ _ _ _ _ _ _ _ _ _ _ _ _ _ _ _ _ _ _ _ _ _ _ _ _ _ _ _ _ _ _ _ _ _ _ _ _ _ _ _ _ _ _ _ _ _ _ _ _ _ _ _ _ _ _ _ _ _ _ _ _ _ _ _ _ _ _ _ _ _ _ _ _ _ _ _ _ _ _ _ _ _ _ _ _ _ _ _ _ _ _ _ _ _ _ _ _ _ _ _ _ _ _ _ _ _ _ _ _ _ _ _ _ _ _ _ _ _ _ _ _ _ _ _ _ _ _ _ _ _ _ _ _ _ _ _ _ _ _ _ _ _ _ _ _ _ _ _ _ _ _ _ _ _ _ _ _ _ _ _ _ _ _ _ _ _ _ _ _ _ _ _ _ _ _ _ _ _ _ _ _ _ _ _ _ _ _ _ _ _ _ _ _ _ _ _ _ _ _ _ _ _ _ _ _ _ _ _ _ _ _ _ _ _ _ _ _ _ _ _ _ _ _ _ _ _ _ _ _ _ _ _ _ _ _ _ _ _ _ _ _ _ _ _ _ _ _ _ _ _ _ _ _ _ _ _ _ _ _ _ _ _ _ _ _ _ _ _ _ _ _ _ _ _ _ _ _ _ _ _ _ _ _ _ _ _ _ _ _ _ _ _ _ _ _ _ _ _ _ _ _ _ _ _ _ _ _ _ _ _ _ _ _ _ _ _ _ _ _ _ _ _ _ _ _ _ _ _ _ _ _ _ _ _ _ _ _ _ _ _ _ _ _ _ _ _ _ _ _ _ _ _ _ _ _ _ _ _ _ _ _ _ _ _ _ _ _ _ _ _ _ _ _ _ _ _ _ _ _ _ _ _ _ _ _ _ _ _ _ _ _ _ _ _ _ _ _ _ _ _ _ _ _ _ _ _ _ _ _ _ _ _ _ _ _ _ _ _ _ _ _ _ _ _ _ _ _ _ _ _ _ _ _ _ _ _ _ _ _ _ _ _ _ _ (Below.refl _ _) F.out H27.out b27 ?_
    intro x230 x231 x232 x233 x234 x235 x236 x237 x238 x239 x240 x241 x242 x243 x244 x245 x246 x247 x248 x249 x250 x251 x252 x253 x254 x255 x256 x257 x258 x259 x260 x261 x262 w19 hb19
    have HB2 := Aside0.mk (below_step HB.out hb19)
    clear HB hb19 H27
    have HB := HB2
    clear HB2
    change K_ _ _
    refine hK_ _ _ ?_
    clear hK_ K_
    go_upto_if 265 with fail
    refine b265 left darts count can _ _ _ _ _ _ _ _ _ _ _ _ _ _ _ _ _ _ _ _ _ _ _ _ _ _ _ _ _ _ _ _ _ _ _ _ _ _ _ _ _ _ _ _ _ _ _ _ _ _ _ _ _ _ _ _ _ _ _ _ _ _ _ _ _ _ _ _ _ _ _ _ _ _ _ _ _ _ _ _ _ _ _ _ _ _ _ _ _ _ _ _ _ _ _ _ _ _ _ _ _ _ _ _ _ _ _ _ _ _ _ _ _ _ _ _ _ _ _ _ _ _ _ _ _ _ _ _ _ _ _ _ _ _ _ _ _ _ _ _ _ _ _ _ _ _ _ _ _ _ _ _ _ _ _ _ _ _ _ _ _ _ _ _ _ _ _ _ _ _ _ _ _ _ _ _ _ _ _ _ _ _ _ _ _ _ _ _ _ _ _ _ _ _ _ _ _ _ _ _ _ _ _ _ _ _ _ _ _ _ _ _ _ _ _ _ _ _ _ _ _ _ _ _ _ _ _ _ _ _ _ _ _ _ _ _ _ _ _ _ _ _ _ _ _ _ _ _ _ _ _ _ _ _ _ _ _ _ _ _ _ _ _ _ _ _ _ _ _ _ _ _ _ _ _ _ _ _ _ _ _ _ _ _ _ _ _ _ _ _ _ _ _ _ _ _ _ _ _ _ _ _ _ _ _ _ _ _ _ _ _ _ _ _ _ _ _ _ _ _ _ _ _ _ _ _ _ _ _ _ _ _ _ _ _ _ _ _ _ _ _ _ _ _ _ _ _ _ _ _ _ _ _ _ _ _ _ _ _ _ _ _ _ _ _ _ _ _ _ _ _ _ _ _ _ _ _ _ _ _ _ _ _ _ _ _ _ _ _ _ _ _ _ _ _ _ _ _ _ _ _ _ _ _ _ _ _ _ _ _ _ _ _ _ _ _ _ _ _ _ _ _ _ _ _ _ _ _ _ _ _ _ _ _ _ _ _ _ _ _ _ _ _ _ _ _ _ _ _ _ _ _ _ _ _ _ _ _ _ _ _ _ _ _ _ _ _ _ _ _ _ _ _ _ _ _ _ _ _ _ _ _ _ _ _ _ _ _ _ _ _ _ _ _ _ _ _ _ _ _ _ _ _ _ (Below.refl _ _) F.out.db (fun h => F.out.less (of_decide_eq_true h)) ?_
    intro y4 y31 y32 y266 y267 y268 y269 y270 y271 y272 y273 y274 y275 y276 y277 y278 y279 y280 y281 y282 y283 y284 y285 y286 y287 y288 y289 y290 y291 y292 w265 hb265
    exact HK.out _ _ _ _ _ _ _ _ _ _ _ _ _ _ _ _ _ _ _ _ _ _ _ _ _ _ _ _ _ _ _ _ _ _ _ _ _ _ _ _ _ _ _ _ _ _ _ _ _ _ _ _ _ _ _ _ _ _ _ _ _ _ _ _ _ _  _ (below_step HB.out hb265)
set_option maxHeartbeats 16000000 in
set_option maxRecDepth 1000000 in
theorem law.calls (A0 : Option Addr) (c0 : Nat) (l0 : List Int) (A1_ : Option Addr) (c1 : Nat) (l1 : List Int) (w : World) (hr0 : Kd.C (Kd.int .u8) w A0 l0.length l0) (hc0 : l0.length ≤ c0) (hr1 : Kd.C (Kd.int .u8) w A1_ l1.length l1) (hc1 : l1.length ≤ c1)
    (hbig : laws_big.f l0 l1 = some false)
    (left darts : Int) (first : List S43) (ok vv can score : Bool) (count ways : Int) (none_ : List Int) (f1 : A1 l0 left darts first ok vv can score count ways none_)
    (n few q high scores : Int) (e t : Bool) (f2 : A2 l1 n few q high scores e t) :
    Calls Try.prog 3 #[.slice A0 l0.length c0, .slice A1_ l1.length c1] w fun e w' => e = .returned (.bool true) ∧ Below w.heap.size w w' := by
  obtain ⟨k6, h6_⟩ := f1.a6
  have h6 := Aside0.mk h6_
  clear h6_
  obtain ⟨k7, h7_⟩ := f1.a7
  have h7 := Aside0.mk h7_
  clear h7_
  obtain ⟨k9, h9_⟩ := f1.a9
  have h9 := Aside0.mk h9_
  clear h9_
  obtain ⟨k10, h10_⟩ := f1.a10
  have h10 := Aside0.mk h10_
  clear h10_
  obtain ⟨k11, h11_⟩ := f1.a11
  have h11 := Aside0.mk h11_
  clear h11_
  obtain ⟨k12, h12_⟩ := f1.a12
  have h12 := Aside0.mk h12_
  clear h12_
  obtain ⟨k13, h13_⟩ := f1.a13
  have h13 := Aside0.mk h13_
  clear h13_
  obtain ⟨k14, h14_⟩ := f1.a14
  have h14 := Aside0.mk h14_
  clear h14_
  obtain ⟨k15, h15_⟩ := f1.a15
  have h15 := Aside0.mk h15_
  clear h15_
  obtain ⟨k16, h16_⟩ := f1.a16
  have h16 := Aside0.mk h16_
  clear h16_
  obtain ⟨k17, h17_⟩ := f1.a17
  have h17 := Aside0.mk h17_
  clear h17_
  obtain ⟨k36, h36_⟩ := f2.a36
  have h36 := Aside0.mk h36_
  clear h36_
  obtain ⟨k38, h38_⟩ := f2.a38
  have h38 := Aside0.mk h38_
  clear h38_
  obtain ⟨k39, h39_⟩ := f2.a39
  have h39 := Aside0.mk h39_
  clear h39_
  obtain ⟨k40, h40_⟩ := f2.a40
  have h40 := Aside0.mk h40_
  clear h40_
  obtain ⟨k41, h41_⟩ := f2.a41
  have h41 := Aside0.mk h41_
  clear h41_
  have h5 := Aside0.mk f1.draw
  have h8 := Aside0.mk f1.a8
  have h26 := Aside0.mk f2.dN
  have h28 := Aside0.mk f2.dK
  have h35 := Aside0.mk f2.a35
  have F := Aside0.mk f1
  have F2 := Aside0.mk f2
  have HR0 := Aside0.mk hr0
  have HC0 := Aside0.mk hc0
  have HR1 := Aside0.mk hr1
  have HC1 := Aside0.mk hc1
  have HG := Aside0.mk hbig
  clear f1 f2 hr0 hc0 hr1 hc1 hbig
  go_enter Try.func3, Try.ntmps3
  go_upto_region 16 with (first | (go_at_call 4; (with_reducible refine (laws_big.calls A0 c0 l0 A1_ c1 l1 false _ HR0.out HC0.out HR1.out HC1.out HG.out).mono ?_); rintro e w1 ⟨rfl, ⟨m1, rfl⟩⟩; have HB := Aside0.mk (pw_below_drewN (Below.refl w.heap.size w) m1)) | (go_at_call 5; (with_reducible refine (spec_DrawFirstFinish.calls A0 c0 l0 left darts _ (Kd.C_drewN HR0.out _) HC0.out h5.out).mono ?_); rintro e w1 ⟨rfl, hb⟩; have HB2 := Aside0.mk (below_step HB.out hb); clear HB hb; have HB := HB2; clear HB2) | (go_at_call 6; (with_reducible refine (impl_FirstFinish.calls k6 left darts first ok _ h6.out).mono ?_); rintro e w1 ⟨aA, rfl, hR, hb⟩; obtain ⟨Af, cf, eR, hl, hC⟩ := Kd.R_reads hR; subst eR; have HB2 := Aside0.mk (below_step HB.out hb); have H7 := Aside0.mk hC; have BH7 := Aside0.mk hl; clear HB hb hR hC hl; have HB := HB2; clear HB2) | (go_at_call 7; (with_reducible refine (spec_FirstFinish.calls k7 left darts first ok _ h7.out).mono ?_); rintro e w1 ⟨aA, rfl, hR, hb⟩; obtain ⟨Ag, cg, eR, hl, hC⟩ := Kd.R_reads hR; subst eR; have HB2 := Aside0.mk (below_step HB.out hb); have H72 := Aside0.mk (Kd.C_below H7.out hb); clear H7; have H7 := H72; clear H72; have H9 := Aside0.mk hC; have BH9 := Aside0.mk hl; clear HB hb hR hC hl; have HB := HB2; clear HB2) | (go_at_call 8; (with_reducible refine (impl_CanFinish.calls left darts can vv _ h8.out).mono ?_); rintro e w1 ⟨rfl, hb⟩; have HB2 := Aside0.mk (below_step HB.out hb); have H72 := Aside0.mk (Kd.C_below H7.out hb); clear H7; have H7 := H72; clear H72; have H92 := Aside0.mk (Kd.C_below H9.out hb); clear H9; have H9 := H92; clear H92; clear HB hb; have HB := HB2; clear HB2) | (go_at_call 9; (with_reducible refine (spec_CanFinish.calls k9 left darts can vv _ h9.out).mono ?_); rintro e w1 ⟨rfl, hb⟩; have HB2 := Aside0.mk (below_step HB.out hb); have H72 := Aside0.mk (Kd.C_below H7.out hb); clear H7; have H7 := H72; clear H72; have H92 := Aside0.mk (Kd.C_below H9.out hb); clear H9; have H9 := H92; clear H92; clear HB hb; have HB := HB2; clear HB2) | (go_at_call 10; (with_reducible refine (impl_CountFinishes.calls k10 left darts count vv _ h10.out).mono ?_); rintro e w1 ⟨rfl, hb⟩; have HB2 := Aside0.mk (below_step HB.out hb); have H72 := Aside0.mk (Kd.C_below H7.out hb); clear H7; have H7 := H72; clear H72; have H92 := Aside0.mk (Kd.C_below H9.out hb); clear H9; have H9 := H92; clear H92; clear HB hb; have HB := HB2; clear HB2) | (go_at_call 11; (with_reducible refine (spec_CountFinishes.calls k11 left darts count vv _ h11.out).mono ?_); rintro e w1 ⟨rfl, hb⟩; have HB2 := Aside0.mk (below_step HB.out hb); have H72 := Aside0.mk (Kd.C_below H7.out hb); clear H7; have H7 := H72; clear H72; have H92 := Aside0.mk (Kd.C_below H9.out hb); clear H9; have H9 := H92; clear H92; clear HB hb; have HB := HB2; clear HB2) | (go_at_call 12; (with_reducible refine (impl_CanScore.calls k12 left darts score vv _ h12.out).mono ?_); rintro e w1 ⟨rfl, hb⟩; have HB2 := Aside0.mk (below_step HB.out hb); have H72 := Aside0.mk (Kd.C_below H7.out hb); clear H7; have H7 := H72; clear H72; have H92 := Aside0.mk (Kd.C_below H9.out hb); clear H9; have H9 := H92; clear H92; clear HB hb; have HB := HB2; clear HB2) | (go_at_call 13; (with_reducible refine (spec_CanScore.calls k13 left darts score vv _ h13.out).mono ?_); rintro e w1 ⟨rfl, hb⟩; have HB2 := Aside0.mk (below_step HB.out hb); have H72 := Aside0.mk (Kd.C_below H7.out hb); clear H7; have H7 := H72; clear H72; have H92 := Aside0.mk (Kd.C_below H9.out hb); clear H9; have H9 := H92; clear H92; clear HB hb; have HB := HB2; clear HB2) | (go_at_call 14; (with_reducible refine (impl_CountWaysTo.calls k14 left darts ways vv _ h14.out).mono ?_); rintro e w1 ⟨rfl, hb⟩; have HB2 := Aside0.mk (below_step HB.out hb); have H72 := Aside0.mk (Kd.C_below H7.out hb); clear H7; have H7 := H72; clear H72; have H92 := Aside0.mk (Kd.C_below H9.out hb); clear H9; have H9 := H92; clear H92; clear HB hb; have HB := HB2; clear HB2) | (go_at_call 15; (with_reducible refine (spec_CountWaysTo.calls k15 left darts ways vv _ h15.out).mono ?_); rintro e w1 ⟨rfl, hb⟩; have HB2 := Aside0.mk (below_step HB.out hb); have H72 := Aside0.mk (Kd.C_below H7.out hb); clear H7; have H7 := H72; clear H72; have H92 := Aside0.mk (Kd.C_below H9.out hb); clear H9; have H9 := H92; clear H92; clear HB hb; have HB := HB2; clear HB2) | (go_at_call 16; (with_reducible refine (impl_NoFinishes.calls k16 left darts none_ vv _ h16.out).mono ?_); rintro e w1 ⟨aA, rfl, hR, hb⟩; obtain ⟨An, cn, eR, hl, hC⟩ := Kd.R_reads hR; subst eR; have HB2 := Aside0.mk (below_step HB.out hb); have H72 := Aside0.mk (Kd.C_below H7.out hb); clear H7; have H7 := H72; clear H72; have H92 := Aside0.mk (Kd.C_below H9.out hb); clear H9; have H9 := H92; clear H92; have H27 := Aside0.mk hC; have BH27 := Aside0.mk hl; clear HB hb hR hC hl; have HB := HB2; clear HB2) | (go_at_call 17; (with_reducible refine (spec_NoFinishes.calls k17 left darts none_ vv _ h17.out).mono ?_); rintro e w1 ⟨aA, rfl, hR, hb⟩; obtain ⟨Ao, co, eR, hl, hC⟩ := Kd.R_reads hR; subst eR; have HB2 := Aside0.mk (below_step HB.out hb); have H72 := Aside0.mk (Kd.C_below H7.out hb); clear H7; have H7 := H72; clear H72; have H92 := Aside0.mk (Kd.C_below H9.out hb); clear H9; have H9 := H92; clear H92; have H272 := Aside0.mk (Kd.C_below H27.out hb); clear H27; have H27 := H272; clear H272; have H29 := Aside0.mk hC; have BH29 := Aside0.mk hl; clear HB hb hR hC hl; have HB := HB2; clear HB2))
  rename_i K_ hK_
  obtain ⟨kF, hF⟩ := F.out.sF
  obtain ⟨kN, hN⟩ := F.out.sN
  refine p16 first none_ left darts count ways ok vv can score Af Ag An Ao cf cg cn co _ _ _ _ _ _ _ _ _ _ _ _ _ _ _ _ _ _ _ _ _ _ _ _ _ _ _ _ _ _ _ _ _ _ _ _ _ _ _ _ _ _ _ _ _ _ _ _ _ _ _ _ _ _ _ _ _ _ _ _ _ _ _ _ _ _ _ _ _ _ _ _ _ _ _ _ _ _ _ _ _ _ _ _ _ _ _ _ _ _ _ _ _ _ _ _ _ _ _ _ _ _ _ _ _ _ _ _ _ _ _ _ _ _ _ _ _ _ _ _ _ _ _ _ _ _ _ _ _ _ _ _ _ _ _ _ _ _ _ _ _ _ _ _ _ _ _ _ _ _ _ _ _ _ _ _ _ _ _ _ _ _ _ _ _ _ _ _ _ _ _ _ _ _ _ _ _ _ _ _ _ _ _ _ _ _ _ _ _ _ _ _ _ _ _ _ _ _ _ _ _ _ _ _ _ _ _ _ _ _ _ _ _ _ _ _ _ _ _ _ _ _ _ _ _ _ _ _ _ _ _ _ _ _ _ _ _ _ _ _ _ _ _ _ _ _ _ _ _ _ _ _ _ _ _ _ _ _ _ _ _ _ _ _ _ _ _ _ _ _ _ _ _ _ _ _ _ _ _ _ _ _ _ _ _ _ _ _ _ _ _ _ _ _ _ _ _ _ _ _ _ _ _ _ _ _ _ _ _ _ _ _ _ _ _ _ _ _ _ _ _ _ _ _ _ _ _ _ _ _ _ _ _ _ _ _ _ _ _ _ _ _ _ _ _ _ _ _ _ _ _ _ _ _ _ _ _ _ _ _ _ _ _ _ _ _ _ _ _ _ _ _ _ _ _ _ _ _ _ _ _ _ _ _ _ _ _ _ _ _ _ _ _ _ _ _ _ _ _ _ _ _ _ _ _ _ _ _ _ _ _ _ _ _ _ _ _ _ _ _ _ _ _ _ _ _ _ _ _ _ _ _ _ _ _ _ _ _ _ _ _ _ _ _ _ _ _ _ _ _ _ _ _ _ _ _ _ _ _ _ _ _ _ _ _ _ _ _ _ _ _ _ _ _ _ _ _ _ _ _ _ _ (Below.refl _ _) F.out.rel kF kN hF hN (by first | exact H7.out | exact Kd.C_drewN H7.out _ | exact Kd.C_drewN (Kd.C_drewN H7.out _) _) BH7.out (by first | exact H9.out | exact Kd.C_drewN H9.out _ | exact Kd.C_drewN (Kd.C_drewN H9.out _) _) BH9.out (by first | exact H27.out | exact Kd.C_drewN H27.out _ | exact Kd.C_drewN (Kd.C_drewN H27.out _) _) BH27.out (by first | exact H29.out | exact Kd.C_drewN H29.out _ | exact Kd.C_drewN (Kd.C_drewN H29.out _) _) BH29.out ?_
  intro x141 x142 x143 x144 x145 x146 x147 x148 x149 x150 x151 x152 x153 x154 x155 x156 x157 x158 x159 x160 x161 x162 x163 x164 x165 x166 x167 x168 x169 x170 x171 x172 x173 x174 x175 x176 x177 x178 x179 x180 x181 x182 x183 x184 x185 x186 x187 x188 x189 x190 x191 x192 x193 x194 x195 x196 x197 x198 x199 x200 x201 x202 x203 x204 x205 x206 x207 x208 x209 x210 x211 x212 x213 x214 x215 x216 x217 x218 x219 x220 x221 x222 x223 x224 x225 x226 x227 w16 hb16
  have HBn := Aside0.mk (below_step (by first | exact HB.out | exact pw_below_drewN HB.out _ | exact pw_below_drewN (pw_below_drewN HB.out _) _) hb16)
  have H7n := Aside0.mk (Kd.C_below (by first | exact H7.out | exact Kd.C_drewN H7.out _ | exact Kd.C_drewN (Kd.C_drewN H7.out _) _) hb16)
  have H27n := Aside0.mk (Kd.C_below (by first | exact H27.out | exact Kd.C_drewN H27.out _ | exact Kd.C_drewN (Kd.C_drewN H27.out _) _) hb16)
  clear HB H7 H27 hb16
  have HB := HBn
  have H7 := H7n
  have H27 := H27n
  clear HBn H7n H27n
  change K_ _ _
  refine hK_ _ _ ?_
  clear hK_ K_ H9 H29
  go_upto_if 229 with fail
  rename_i K_ hK_
  refine b229 none_ left darts count ways can vv score An cn _ _ _ _ _ _ _ _ _ _ _ _ _ _ _ _ _ _ _ _ _ _ _ _ _ _ _ _ _ _ _ _ _ _ _ _ _ _ _ _ _ _ _ _ _ _ _ _ _ _ _ _ _ _ _ _ _ _ _ _ _ _ _ _ _ _ _ _ _ _ _ _ _ _ _ _ _ _ _ _ _ _ _ _ _ _ _ _ _ _ _ _ _ _ _ _ _ _ _ _ _ _ _ _ _ _ _ _ _ _ _ _ _ _ _ _ _ _ _ _ _ _ _ _ _ _ _ _ _ _ _ _ _ _ _ _ _ _ _ _ _ _ _ _ _ _ _ _ _ _ _ _ _ _ _ _ _ _ _ _ _ _ _ _ _ _ _ _ _ _ _ _ _ _ _ _ _ _ _ _ _ _ _ _ _ _ _ _ _ _ _ _ _ _ _ _ _ _ _ _ _ _ _ _ _ _ _ _ _ _ _ _ _ _ _ _ _ _ _ _ _ _ _ _ _ _ _ _ _ _ _ _ _ _ _ _ _ _ _ _ _ _ _ _ _ _ _ _ _ _ _ _ _ _ _ _ _ _ _ _ _ _ _ _ _ _ _ _ _ _ _ _ _ _ _ _ _ _ _ _ _ _ _ _ _ _ _ _ _ _ _ _ _ _ _ _ _ _ _ _ _ _ _ _ _ _ _ _ _ _ _ _ _ _ _ _ _ _ _ _ _ _ _ _ _ _ _ _ _ _ _ _ _ _ _ _ _ _ _ _ _ _ _ _ _ _ _ _ _ _ _ _ _ _ _ _ _ _ _ _ _ _ _ _ _ _ _ _ _ _ _ _ _ _ _ _ _ _ _ _ _ _ _ _ _ _ _ _ _ _ _ _ _ _ _ _ _ _ _ _ _ _ _ _ _ _ _ _ _ _ _ _ _ _ _ _ _ _ _ _ _ _ _ _ _ _ _ _ _ _ _ _ _ _ _ _ _ _ _ _ _ _ _ _ _ _ _ _ _ _ _ _ _ _ _ _ _ _ _ _ _ _ _ _ _ _ _ _ _ _ _ _ _ _ _ _ _ _ _ _ _ _ _ _ _ _ _ _ _ _ _ _ _ _ _ _ _ _ _ (Below.refl _ _) F.out.tf H27.out BH27.out ?_
  intro y4 y31 y32 y230 y231 y232 y233 y234 y235 y236 y237 y238 y239 y240 y241 y242 y243 y244 y245 y246 y247 y248 y249 y250 y251 y252 y253 y254 y255 y256 y257 y258 y259 y260 y261 y262 y263 y264 y265 y266 y267 y268 y269 y270 y271 y272 y273 y274 y275 y276 y277 y278 y279 y280 y281 y282 y283 y284 y285 y286 y287 y288 y289 y290 y291 y292 w229 hb229
  have HBn := Aside0.mk (below_step (by first | exact HB.out | exact pw_below_drewN HB.out _ | exact pw_below_drewN (pw_below_drewN HB.out _) _) hb229)
  have H7n := Aside0.mk (Kd.C_below (by first | exact H7.out | exact Kd.C_drewN H7.out _ | exact Kd.C_drewN (Kd.C_drewN H7.out _) _) hb229)
  clear HB H7 hb229
  have HB := HBn
  have H7 := H7n
  clear HBn H7n
  change K_ _ _
  refine hK_ _ _ ?_
  clear hK_ K_ H27
  go_upto_if 293 with fail
  rename_i K_ hK_
  refine b293 left darts first ok Af cf _ _ _ _ _ _ _ _ _ _ _ _ _ _ _ _ _ _ _ _ _ _ _ _ _ _ _ _ _ _ _ _ _ _ _ _ _ _ _ _ _ _ _ _ _ _ _ _ _ _ _ _ _ _ _ _ _ _ _ _ _ _ _ _ _ _ _ _ _ _ _ _ _ _ _ _ _ _ _ _ _ _ _ _ _ _ _ _ _ _ _ _ _ _ _ _ _ _ _ _ _ _ _ _ _ _ _ _ _ _ _ _ _ _ _ _ _ _ _ _ _ _ _ _ _ _ _ _ _ _ _ _ _ _ _ _ _ _ _ _ _ _ _ _ _ _ _ _ _ _ _ _ _ _ _ _ _ _ _ _ _ _ _ _ _ _ _ _ _ _ _ _ _ _ _ _ _ _ _ _ _ _ _ _ _ _ _ _ _ _ _ _ _ _ _ _ _ _ _ _ _ _ _ _ _ _ _ _ _ _ _ _ _ _ _ _ _ _ _ _ _ _ _ _ _ _ _ _ _ _ _ _ _ _ _ _ _ _ _ _ _ _ _ _ _ _ _ _ _ _ _ _ _ _ _ _ _ _ _ _ _ _ _ _ _ _ _ _ _ _ _ _ _ _ _ _ _ _ _ _ _ _ _ _ _ _ _ _ _ _ _ _ _ _ _ _ _ _ _ _ _ _ _ _ _ _ _ _ _ _ _ _ _ _ _ _ _ _ _ _ _ _ _ _ _ _ _ _ _ _ _ _ _ _ _ _ _ _ _ _ _ _ _ _ _ _ _ _ _ _ _ _ _ _ _ _ _ _ _ _ _ _ _ _ _ _ _ _ _ _ _ _ _ _ _ _ _ _ _ _ _ _ _ _ _ _ _ _ _ _ _ _ _ _ _ _ _ _ _ _ _ _ _ _ _ _ _ _ _ _ _ _ _ _ _ _ _ _ _ _ _ _ _ _ _ _ _ _ _ _ _ _ _ _ _ _ _ _ _ _ _ _ _ _ _ _ _ _ _ _ _ _ _ _ _ _ _ _ _ _ _ _ _ _ _ _ _ _ _ _ _ _ _ _ _ _ _ _ _ _ _ _ _ _ _ _ _ _ _ _ _ _ _ _ _ _ _ _ _ _ _ _ _ (Below.refl _ _) F.out.of_ H7.out BH7.out ?_
  intro z4 z33 z34 z35 z36 z37 z38 z39 z40 z294 z295 z296 z297 z298 z299 z300 z301 z302 z303 z304 z305 z306 z307 z308 z309 z310 z311 z312 z313 z314 z315 z316 z317 z318 z319 z320 z321 z322 z323 z324 z325 z326 z327 z328 z329 z330 z331 z332 z333 z334 z335 z336 z337 z338 z339 z340 z341 z342 z343 z344 z345 z346 z347 z348 z349 z350 z351 z352 z353 z354 z355 z356 z357 z358 z359 z360 z361 z362 z363 z364 z365 z366 w293 hb293
  have HBn := Aside0.mk (below_step (by first | exact HB.out | exact pw_below_drewN HB.out _ | exact pw_below_drewN (pw_below_drewN HB.out _) _) hb293)
  clear HB  hb293
  have HB := HBn
  clear HBn
  change K_ _ _
  refine hK_ _ _ ?_
  clear hK_ K_ H7
  go_upto_region 42 with (first | (go_at_call 26; (with_reducible refine (spec_DrawFewestDarts.calls A1_ c1 l1 n _ (Kd.C_below HR1.out HB.out) HC1.out h26.out).mono ?_); rintro e_ w1 ⟨rfl, hb⟩; have HB2 := Aside0.mk (below_step HB.out hb); clear HB hb; have HB := HB2; clear HB2) | (go_at_call 23; (with_reducible refine (impl_FewestDarts.calls n few e _ h35.out).mono ?_); rintro e_ w1 ⟨rfl, hb⟩; have HB2 := Aside0.mk (below_step HB.out hb); clear HB hb; have HB := HB2; clear HB2) | (go_at_call 27; (with_reducible refine (spec_FewestDarts.calls k36 n few e _ h36.out).mono ?_); rintro e_ w1 ⟨rfl, hb⟩; have HB2 := Aside0.mk (below_step HB.out hb); clear HB hb; have HB := HB2; clear HB2) | (go_at_call 28; (with_reducible refine (spec_DrawHighestFinish.calls A1_ c1 l1 q _ (Kd.C_below HR1.out HB.out) HC1.out h28.out).mono ?_); rintro e_ w1 ⟨rfl, hb⟩; have HB2 := Aside0.mk (below_step HB.out hb); clear HB hb; have HB := HB2; clear HB2) | (go_at_call 29; (with_reducible refine (impl_HighestFinish.calls k38 q high t _ h38.out).mono ?_); rintro e_ w1 ⟨rfl, hb⟩; have HB2 := Aside0.mk (below_step HB.out hb); clear HB hb; have HB := HB2; clear HB2) | (go_at_call 30; (with_reducible refine (spec_HighestFinish.calls k39 q high t _ h39.out).mono ?_); rintro e_ w1 ⟨rfl, hb⟩; have HB2 := Aside0.mk (below_step HB.out hb); clear HB hb; have HB := HB2; clear HB2) | (go_at_call 31; (with_reducible refine (impl_CountScores.calls k40 q scores t _ h40.out).mono ?_); rintro e_ w1 ⟨rfl, hb⟩; have HB2 := Aside0.mk (below_step HB.out hb); clear HB hb; have HB := HB2; clear HB2) | (go_at_call 32; (with_reducible refine (spec_CountScores.calls k41 q scores t _ h41.out).mono ?_); rintro e_ w1 ⟨rfl, hb⟩; have HB2 := Aside0.mk (below_step HB.out hb); clear HB hb; have HB := HB2; clear HB2))
  rename_i K_ hK_
  refine p42 n few q high scores e t _ _ _ _ _ _ _ _ _ _ _ _ _ _ _ _ _ _ _ _ _ _ _ _ _ _ _ _ _ _ _ _ _ _ _ _ _ _ _ _ _ _ _ _ _ _ _ _ _ _ _ _ _ _ _ _ _ _ _ _ _ _ _ _ _ _ _ _ _ _ _ _ _ _ _ _ _ _ _ _ _ _ _ _ _ _ _ _ _ _ _ _ _ _ _ _ _ _ _ _ _ _ _ _ _ _ _ _ _ _ _ _ _ _ _ _ _ _ _ _ _ _ _ _ _ _ _ _ _ _ _ _ _ _ _ _ _ _ _ _ _ _ _ _ _ _ _ _ _ _ _ _ _ _ _ _ _ _ _ _ _ _ _ _ _ _ _ _ _ _ _ _ _ _ _ _ _ _ _ _ _ _ _ _ _ _ _ _ _ _ _ _ _ _ _ _ _ _ _ _ _ _ _ _ _ _ _ _ _ _ _ _ _ _ _ _ _ _ _ _ _ _ _ _ _ _ _ _ _ _ _ _ _ _ _ _ _ _ _ _ _ _ _ _ _ _ _ _ _ _ _ _ _ _ _ _ _ _ _ _ _ _ _ _ _ _ _ _ _ _ _ _ _ _ _ _ _ _ _ _ _ _ _ _ _ _ _ _ _ _ _ _ _ _ _ _ _ _ _ _ _ _ _ _ _ _ _ _ _ _ _ _ _ _ _ _ _ _ _ _ _ _ _ _ _ _ _ _ _ _ _ _ _ _ _ _ _ _ _ _ _ _ _ _ _ _ _ _ _ _ _ _ _ _ _ _ _ _ _ _ _ _ _ _ _ _ _ _ _ _ _ _ _ _ _ _ _ _ _ _ _ _ _ _ _ _ _ _ _ _ _ _ _ _ _ _ _ _ _ _ _ _ _ _ _ _ _ _ _ _ _ _ _ _ _ _ _ _ _ _ _ _ _ _ _ _ _ _ _ _ _ _ _ _ _ _ _ _ _ _ _ _ _ _ _ _ _ _ _ _ _ _ _ _ _ _ _ _ _ _ _ _ _ _ _ _ _ _ _ _ _ _ _ _ _ _ _ _ _ _ _ _ _ _ _ _ _ _ _ _ _ _ _ _ (Below.refl _ _) ?_
  intro a401 a402 a403 a404 a405 a406 a407 a408 a409 a410 a411 a412 a413 a414 a415 a416 a417 a418 a419 a420 a421 a422 a423 a424 a425 a426 a427 a428 a429 a430 a431 a432 w42 hb42
  have HBn := Aside0.mk (below_step (by first | exact HB.out | exact pw_below_drewN HB.out _ | exact pw_below_drewN (pw_below_drewN HB.out _) _) hb42)
  clear HB  hb42
  have HB := HBn
  clear HBn
  change K_ _ _
  refine hK_ _ _ ?_
  clear hK_ K_
  go_upto_region 44 with fail
  rename_i K_ hK_
  refine p44 n few e _ _ _ _ _ _ _ _ _ _ _ _ _ _ _ _ _ _ _ _ _ _ _ _ _ _ _ _ _ _ _ _ _ _ _ _ _ _ _ _ _ _ _ _ _ _ _ _ _ _ _ _ _ _ _ _ _ _ _ _ _ _ _ _ _ _ _ _ _ _ _ _ _ _ _ _ _ _ _ _ _ _ _ _ _ _ _ _ _ _ _ _ _ _ _ _ _ _ _ _ _ _ _ _ _ _ _ _ _ _ _ _ _ _ _ _ _ _ _ _ _ _ _ _ _ _ _ _ _ _ _ _ _ _ _ _ _ _ _ _ _ _ _ _ _ _ _ _ _ _ _ _ _ _ _ _ _ _ _ _ _ _ _ _ _ _ _ _ _ _ _ _ _ _ _ _ _ _ _ _ _ _ _ _ _ _ _ _ _ _ _ _ _ _ _ _ _ _ _ _ _ _ _ _ _ _ _ _ _ _ _ _ _ _ _ _ _ _ _ _ _ _ _ _ _ _ _ _ _ _ _ _ _ _ _ _ _ _ _ _ _ _ _ _ _ _ _ _ _ _ _ _ _ _ _ _ _ _ _ _ _ _ _ _ _ _ _ _ _ _ _ _ _ _ _ _ _ _ _ _ _ _ _ _ _ _ _ _ _ _ _ _ _ _ _ _ _ _ _ _ _ _ _ _ _ _ _ _ _ _ _ _ _ _ _ _ _ _ _ _ _ _ _ _ _ _ _ _ _ _ _ _ _ _ _ _ _ _ _ _ _ _ _ _ _ _ _ _ _ _ _ _ _ _ _ _ _ _ _ _ _ _ _ _ _ _ _ _ _ _ _ _ _ _ _ _ _ _ _ _ _ _ _ _ _ _ _ _ _ _ _ _ _ _ _ _ _ _ _ _ _ _ _ _ _ _ _ _ _ _ _ _ _ _ _ _ _ _ _ _ _ _ _ _ _ _ _ _ _ _ _ _ _ _ _ _ _ _ _ _ _ _ _ _ _ _ _ _ _ _ _ _ _ _ _ _ _ _ _ _ _ _ _ _ _ _ _ _ _ _ _ _ _ _ _ _ _ _ _ _ _ _ _ _ _ _ _ _ _ _ _ _ _ _ _ _ _ _ _ _ _ _ _ _ _ (Below.refl _ _) F2.out.ef ?_
  intro b434 b435 b436 b437 b438 b439 b440 b441 b442 b443 b444 b445 b446 b447 b448 b449 b450 b451 w44 hb44
  have HBn := Aside0.mk (below_step (by first | exact HB.out | exact pw_below_drewN HB.out _ | exact pw_below_drewN (pw_below_drewN HB.out _) _) hb44)
  clear HB  hb44
  have HB := HBn
  clear HBn
  change K_ _ _
  refine hK_ _ _ ?_
  clear hK_ K_
  go_upto_region 46 with fail
  rename_i K_ hK_
  refine p46 n few e _ _ _ _ _ _ _ _ _ _ _ _ _ _ _ _ _ _ _ _ _ _ _ _ _ _ _ _ _ _ _ _ _ _ _ _ _ _ _ _ _ _ _ _ _ _ _ _ _ _ _ _ _ _ _ _ _ _ _ _ _ _ _ _ _ _ _ _ _ _ _ _ _ _ _ _ _ _ _ _ _ _ _ _ _ _ _ _ _ _ _ _ _ _ _ _ _ _ _ _ _ _ _ _ _ _ _ _ _ _ _ _ _ _ _ _ _ _ _ _ _ _ _ _ _ _ _ _ _ _ _ _ _ _ _ _ _ _ _ _ _ _ _ _ _ _ _ _ _ _ _ _ _ _ _ _ _ _ _ _ _ _ _ _ _ _ _ _ _ _ _ _ _ _ _ _ _ _ _ _ _ _ _ _ _ _ _ _ _ _ _ _ _ _ _ _ _ _ _ _ _ _ _ _ _ _ _ _ _ _ _ _ _ _ _ _ _ _ _ _ _ _ _ _ _ _ _ _ _ _ _ _ _ _ _ _ _ _ _ _ _ _ _ _ _ _ _ _ _ _ _ _ _ _ _ _ _ _ _ _ _ _ _ _ _ _ _ _ _ _ _ _ _ _ _ _ _ _ _ _ _ _ _ _ _ _ _ _ _ _ _ _ _ _ _ _ _ _ _ _ _ _ _ _ _ _ _ _ _ _ _ _ _ _ _ _ _ _ _ _ _ _ _ _ _ _ _ _ _ _ _ _ _ _ _ _ _ _ _ _ _ _ _ _ _ _ _ _ _ _ _ _ _ _ _ _ _ _ _ _ _ _ _ _ _ _ _ _ _ _ _ _ _ _ _ _ _ _ _ _ _ _ _ _ _ _ _ _ _ _ _ _ _ _ _ _ _ _ _ _ _ _ _ _ _ _ _ _ _ _ _ _ _ _ _ _ _ _ _ _ _ _ _ _ _ _ _ _ _ _ _ _ _ _ _ _ _ _ _ _ _ _ _ _ _ _ _ _ _ _ _ _ _ _ _ _ _ _ _ _ _ _ _ _ _ _ _ _ _ _ _ _ _ _ _ _ _ _ _ _ _ _ _ _ _ _ _ _ _ _ _ _ _ _ _ _ _ _ _ _ _ _ _ _ _ (Below.refl _ _) ?_
  intro c453 c454 c455 c456 w46 hb46
  have HBn := Aside0.mk (below_step (by first | exact HB.out | exact pw_below_drewN HB.out _ | exact pw_below_drewN (pw_below_drewN HB.out _) _) hb46)
  clear HB  hb46
  have HB := HBn
  clear HBn
  change K_ _ _
  refine hK_ _ _ ?_
  clear hK_ K_
  obtain ⟨ez, hez⟩ : ∃ b, b = (e && decide (few ≤ 3)) := ⟨_, rfl⟩
  rw [← hez]
  go_upto_if 457 with fail
  rename_i K_ hK_
  refine b457 n few ez _ _ _ _ _ _ _ _ _ _ _ _ _ _ _ _ _ _ _ _ _ _ _ _ _ _ _ _ _ _ _ _ _ _ _ _ _ _ _ _ _ _ _ _ _ _ _ _ _ _ _ _ _ _ _ _ _ _ _ _ _ _ _ _ _ _ _ _ _ _ _ _ _ _ _ _ _ _ _ _ _ _ _ _ _ _ _ _ _ _ _ _ _ _ _ _ _ _ _ _ _ _ _ _ _ _ _ _ _ _ _ _ _ _ _ _ _ _ _ _ _ _ _ _ _ _ _ _ _ _ _ _ _ _ _ _ _ _ _ _ _ _ _ _ _ _ _ _ _ _ _ _ _ _ _ _ _ _ _ _ _ _ _ _ _ _ _ _ _ _ _ _ _ _ _ _ _ _ _ _ _ _ _ _ _ _ _ _ _ _ _ _ _ _ _ _ _ _ _ _ _ _ _ _ _ _ _ _ _ _ _ _ _ _ _ _ _ _ _ _ _ _ _ _ _ _ _ _ _ _ _ _ _ _ _ _ _ _ _ _ _ _ _ _ _ _ _ _ _ _ _ _ _ _ _ _ _ _ _ _ _ _ _ _ _ _ _ _ _ _ _ _ _ _ _ _ _ _ _ _ _ _ _ _ _ _ _ _ _ _ _ _ _ _ _ _ _ _ _ _ _ _ _ _ _ _ _ _ _ _ _ _ _ _ _ _ _ _ _ _ _ _ _ _ _ _ _ _ _ _ _ _ _ _ _ _ _ _ _ _ _ _ _ _ _ _ _ _ _ _ _ _ _ _ _ _ _ _ _ _ _ _ _ _ _ _ _ _ _ _ _ _ _ _ _ _ _ _ _ _ _ _ _ _ _ _ _ _ _ _ _ _ _ _ _ _ _ _ _ _ _ _ _ _ _ _ _ _ _ _ _ _ _ _ _ _ _ _ _ _ _ _ _ _ _ _ _ _ _ _ _ _ _ _ _ _ _ _ _ _ _ _ _ _ _ _ _ _ _ _ _ _ _ _ _ _ _ _ _ _ _ _ _ _ _ _ _ _ _ _ _ _ _ _ _ _ _ _ _ _ _ _ _ _ _ _ _ _ _ _ _ _ _ _ _ _ _ _ _ _ _ _ _ _ _ (Below.refl _ _) (fun h => by rw [hez, Bool.and_eq_true] at h; exact ((F2.out.ef h.1).three (of_decide_eq_true h.2)).2) ?_
  intro d4 d55 d56 d458 d459 d460 d461 d462 d463 d464 d465 d466 d467 d468 d469 w457 hb457
  have HBn := Aside0.mk (below_step (by first | exact HB.out | exact pw_below_drewN HB.out _ | exact pw_below_drewN (pw_below_drewN HB.out _) _) hb457)
  clear HB  hb457
  have HB := HBn
  clear HBn
  change K_ _ _
  refine hK_ _ _ ?_
  clear hK_ K_
  go_upto_if 470 with fail
  rename_i K_ hK_
  refine b470 q high scores t _ _ _ _ _ _ _ _ _ _ _ _ _ _ _ _ _ _ _ _ _ _ _ _ _ _ _ _ _ _ _ _ _ _ _ _ _ _ _ _ _ _ _ _ _ _ _ _ _ _ _ _ _ _ _ _ _ _ _ _ _ _ _ _ _ _ _ _ _ _ _ _ _ _ _ _ _ _ _ _ _ _ _ _ _ _ _ _ _ _ _ _ _ _ _ _ _ _ _ _ _ _ _ _ _ _ _ _ _ _ _ _ _ _ _ _ _ _ _ _ _ _ _ _ _ _ _ _ _ _ _ _ _ _ _ _ _ _ _ _ _ _ _ _ _ _ _ _ _ _ _ _ _ _ _ _ _ _ _ _ _ _ _ _ _ _ _ _ _ _ _ _ _ _ _ _ _ _ _ _ _ _ _ _ _ _ _ _ _ _ _ _ _ _ _ _ _ _ _ _ _ _ _ _ _ _ _ _ _ _ _ _ _ _ _ _ _ _ _ _ _ _ _ _ _ _ _ _ _ _ _ _ _ _ _ _ _ _ _ _ _ _ _ _ _ _ _ _ _ _ _ _ _ _ _ _ _ _ _ _ _ _ _ _ _ _ _ _ _ _ _ _ _ _ _ _ _ _ _ _ _ _ _ _ _ _ _ _ _ _ _ _ _ _ _ _ _ _ _ _ _ _ _ _ _ _ _ _ _ _ _ _ _ _ _ _ _ _ _ _ _ _ _ _ _ _ _ _ _ _ _ _ _ _ _ _ _ _ _ _ _ _ _ _ _ _ _ _ _ _ _ _ _ _ _ _ _ _ _ _ _ _ _ _ _ _ _ _ _ _ _ _ _ _ _ _ _ _ _ _ _ _ _ _ _ _ _ _ _ _ _ _ _ _ _ _ _ _ _ _ _ _ _ _ _ _ _ _ _ _ _ _ _ _ _ _ _ _ _ _ _ _ _ _ _ _ _ _ _ _ _ _ _ _ _ _ _ _ _ _ _ _ _ _ _ _ _ _ _ _ _ _ _ _ _ _ _ _ _ _ _ _ _ _ _ _ _ _ _ _ _ _ _ _ _ _ _ _ _ _ _ _ _ _ _ _ _ _ _ _ _ _ _ _ _ _ _ _ _ _ _ _ _ (Below.refl _ _) F2.out.hf ?_
  intro g4 g57 g58 g59 g60 g471 g472 g473 g474 g475 g476 g477 g478 g479 g480 g481 g482 g483 g484 g485 g486 g487 g488 g489 g490 g491 g492 g493 g494 g495 g496 g497 g498 g499 g500 g501 g502 g503 g504 w470 hb470
  have HBn := Aside0.mk (below_step (by first | exact HB.out | exact pw_below_drewN HB.out _ | exact pw_below_drewN (pw_below_drewN HB.out _) _) hb470)
  clear HB  hb470
  have HB := HBn
  clear HBn
  change K_ _ _
  refine hK_ _ _ ?_
  clear hK_ K_
  first
    | (go_wp2; go_ret; exact ⟨rfl, HB.out⟩)
    | (go_wp2; exact bodyPost_ret (results_tmp rfl rfl rfl) rfl ⟨rfl, HB.out⟩)
    | (go_ret; exact ⟨rfl, HB.out⟩)
end Go.Proofs.Ytacmfgbeaoalfaa.QFnDartsFinish
