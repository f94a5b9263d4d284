/- laws.FnRacesWon's range over who wins next: it tells whether a side stands there. Condition: those are ASCII letters. -/
import Derived.Test.YtiknaldhjbdnbaaGreatDoorcGFollow
import Derived.BigQuiet
import Derived.Deep.QuietTactic
namespace Go.Proofs.YtiknaldhjbdnbaaGreatDoor.QFnRacesWon
open Go.RowKit Go.Proofs.YtiknaldhjbdnbaaGreatDoorW.PrintWords Go.Proofs.YtiknaldhjbdnbaaGreatDoorW.PrintLast Go.Proofs.YtiknaldhjbdnbaaGreatDoorW.PrintMore
set_option linter.unusedVariables false
set_option linter.unusedSimpArgs false
def piece : List Nat → Code → Code
  | 0::r, .seq a _ => piece r a
  | 1::r, .seq _ b => piece r b
  | 2::r, .cond _ a _ => piece r a
  | 3::r, .cond _ _ b => piece r b
  | 4::r, .block _ a => piece r a
  | 4::r, .loop a => piece r a
  | 4::r, .scope a => piece r a
  | _, c => c
set_option maxHeartbeats 8000000 in
set_option maxRecDepth 1000000 in
theorem inn (nx : ByteArray) (sb : UInt8) (gi : Nat) (w0 : World) (aA aB aC aD aE aF aG aH aI aJ aK aL aM aN aO aP aQ aR aS aT aU aV aW aX aY aZ bA bB bC bD bE bF bG Em bH bI bJ bK bL bM bN bO bP bQ bR bS bT bU bV bW bX bY bZ cA cB cC cD cE cF cG cH cI cJ cK cL cM cN cO cP cQ cR cS cT cU cV cW cX cY cZ dA dB dC dD dE dF dG dH dI dJ dK dL dM dN dO dP dQ dR dS dT dU dV dW dX dY dZ eA eB eC eD eE eF eG eH eI eJ eK eL eM eN eO eP eQ eR eS eT eU eV eW eX eY eZ fA fB fC fD fE fF fG fH fI fJ fK fL fM fN fO fP fQ fR fS fT fU fV fW fX fY fZ gA gB gC gD gE gF gG gH gI gJ gK gL gM gN gO gP gQ gR gS gT gU gV gW gX gY gZ hA hC hD hE hF hG hH hI hJ hK hM hN hQ hS hT hU hV hW hX hY hZ iA iB iC iD iE iF iG iH iI iJ iK iL iM iN iO iP iQ iR iS iT iU iV iW iX iY iZ jA jB jC jD jE jF jG jH jI jJ jK jL jM jN jO jP jQ jR jS jT jU jV jW jX jY jZ kA kB kC kD kE kF kG kH kI kJ kK kL kM kN kO kP kQ kR kS kT kU kV kW kX kY kZ lA lB lC lD lE lF lG lH lI lJ lK lL lM lN lO lP lQ lR lS lT lU lV lW lX lY lZ mA mB mC mD mE mF mG mH mI mJ mK mL mM mN mO mP mQ mR mS mT mU mV mW mX mY mZ nA nB nC nD nE nF nG nH nI nJ nK nL nM nN nO nP nQ nR nS nT nU nV nW nX nY nZ oA oB oC oD oE oF oG oH oI oJ oK En Eo Ep Eq Er Es Et Eu Ev Ew Ex Ey oL oM oN oO oP oQ oR oS oT oU oV oW oX oY oZ pA pB pC pD pE pF pG pH pI pJ pK pL pM pN pO pP pQ pR pS pT pU pV pW pX pY pZ qA qB qC qD qE qF qG qH qI qJ qK qL qM qN qO qP qQ qR qS qT qU qV qW qX qY qZ rA rB rC rD rE rF rG rH rI rJ rK rL rM rN rO rP rQ rR rS rT rU rV rX rY rZ sA sB sC sD sE sF sG sH sI sJ sK sL sM sN sO sP sQ sR sS sT sU sV sW sX sY sZ tA tB tC tE tF tG tH tI tJ tK tL tM tN tO tP tQ tR tS tT tU tV tW tX tY tZ uA uB uC uD uE uF uG uH uI uJ uK uL uM uN uO uP uQ uR uS uT uU uV uW uX uY uZ vA vB vC vD vE vF vG vH vI vJ vK vL vM vN vO vP vQ vR vS vT vU vV vW vX vY vZ wA wB wC wD wE wF wG wH wI wJ wK wL wM wO wP wQ wR wS wT wU wV wW wX wY wZ xA xB xC xD xE xF xG xH xI xJ xK xL xM xN xO xP xQ xR xS xT xU xV xW xX xY xZ yA yB yC yD yE yF yG yH yI yJ yK yL yM yN yO yP yQ yR yS yT yU yV yW yX yY yZ zA zB zC zD zE zF zG zH zI zJ zK zL zM zN zO zP zQ zR zS zT zU zV zW zX zY zZ Aa Ab Ac Ad Ae Af Ag Ah Ai Aj Ak Al Am An Ao Ap Aq Ar As Au Av Aw Ax Ay Az Ba Bb Bc Bd Be Bf Bg Bh Bi Bj Bk Bl Bm Bn Bo Bp Bq Br Bs Bt Bu Bv Bw Bx By Bz Ca Cb Cc Cd Ce Cf Cg Ch Ci Cj Ck Cl Cm Cn Co Cp Cq Cr Cs Ct Cu Cv Cw Cx Cy Cz Da Db Dc Dd De Df Dg Dh Di Dj Dk Dl Dm Dn Do Dp Dq Dr Ds Dt Du Dv Dw Dx Dy Dz Ea Eb Ec Ed Ee Ef Eg Eh Ei Ej Ek El : Value) (w : World) (Q : Exit → Act → World → Prop)
    (hasc : Aside0 (nx.data.toList.all (fun c => decide (c.toNat < 128)) = true)) (hn : nx.size ≤ 2) (HI0 : Aside0 (w.heap[gi]? = some (.stringIter nx 0))) (HB0 : Aside0 (Below w0.heap.size w0 w)) (hge : w0.heap.size ≤ gi)
    (hk : ∀ (Ez Fa Fb Fc Fd Fe Ff Fg Fh Fi Fj Fk Fl : Value) (w' : World), Below w0.heap.size w0 w' → (∀ b : Nat, b ≠ gi → w'.heap[b]? = w.heap[b]?) → Q .normal ⟨List.toArray (aA::aB::aC::aD::aE::aF::aG::aH::aI::aJ::aK::aL::aM::aN::aO::aP::aQ::.string nx::aR::aS::aT::aU::aV::aW::aX::aY::aZ::bA::bB::bC::.string ⟨#[sb]⟩::bD::bE::bF::bG::.bool (nx.data.toList.any (fun c => c == sb))::Ez::bH::bI::bJ::bK::bL::bM::bN::bO::bP::bQ::bR::bS::bT::bU::bV::bW::bX::bY::bZ::cA::cB::cC::cD::cE::cF::cG::cH::cI::cJ::cK::cL::cM::cN::cO::cP::cQ::cR::cS::cT::cU::cV::cW::cX::cY::cZ::dA::dB::dC::dD::dE::dF::dG::dH::dI::dJ::dK::dL::dM::dN::dO::dP::dQ::dR::dS::dT::dU::dV::dW::dX::dY::dZ::eA::eB::eC::eD::eE::eF::eG::eH::eI::eJ::eK::eL::eM::eN::eO::eP::eQ::eR::eS::eT::eU::eV::eW::eX::eY::eZ::fA::fB::fC::fD::fE::fF::fG::fH::fI::fJ::fK::fL::fM::fN::fO::fP::fQ::fR::fS::fT::fU::fV::fW::fX::fY::fZ::gA::gB::gC::gD::gE::gF::gG::gH::gI::gJ::gK::gL::gM::gN::gO::gP::gQ::gR::gS::gT::gU::gV::gW::gX::gY::gZ::hA::hC::hD::hE::hF::hG::hH::hI::hJ::hK::hM::hN::hQ::hS::hT::hU::hV::hW::hX::hY::hZ::iA::iB::iC::iD::iE::iF::iG::iH::iI::iJ::iK::iL::iM::iN::iO::iP::iQ::iR::iS::iT::iU::iV::iW::iX::iY::iZ::jA::jB::jC::jD::jE::jF::jG::jH::jI::jJ::jK::jL::jM::jN::jO::jP::jQ::jR::jS::jT::jU::jV::jW::jX::jY::jZ::kA::kB::kC::kD::kE::kF::kG::kH::kI::kJ::kK::kL::kM::kN::kO::kP::kQ::kR::kS::kT::kU::kV::kW::kX::kY::kZ::lA::lB::lC::lD::lE::lF::lG::lH::lI::lJ::lK::lL::lM::lN::lO::lP::lQ::lR::lS::lT::lU::lV::lW::lX::lY::lZ::mA::mB::mC::mD::mE::mF::mG::mH::mI::mJ::mK::mL::mM::mN::mO::mP::mQ::mR::mS::mT::mU::mV::mW::mX::mY::mZ::nA::nB::nC::nD::nE::nF::nG::nH::nI::nJ::nK::nL::nM::nN::nO::nP::nQ::nR::nS::nT::nU::nV::nW::nX::nY::nZ::oA::oB::oC::oD::oE::oF::oG::oH::oI::oJ::oK::.pointer (some ⟨gi, 0, none⟩)::Fa::Fb::Fc::Fd::Fe::Ff::Fg::Fh::Fi::Fj::Fk::Fl::oL::oM::oN::oO::oP::oQ::oR::oS::oT::oU::oV::oW::oX::oY::oZ::pA::pB::pC::pD::pE::pF::pG::pH::pI::pJ::pK::pL::pM::pN::pO::pP::pQ::pR::pS::pT::pU::pV::pW::pX::pY::pZ::qA::qB::qC::qD::qE::qF::qG::qH::qI::qJ::qK::qL::qM::qN::qO::qP::qQ::qR::qS::qT::qU::qV::qW::qX::qY::qZ::rA::rB::rC::rD::rE::rF::rG::rH::rI::rJ::rK::rL::rM::rN::rO::rP::rQ::rR::rS::rT::rU::rV::rX::rY::rZ::sA::sB::sC::sD::sE::sF::sG::sH::sI::sJ::sK::sL::sM::sN::sO::sP::sQ::sR::sS::sT::sU::sV::sW::sX::sY::sZ::tA::tB::tC::tE::tF::tG::tH::tI::tJ::tK::tL::tM::tN::tO::tP::tQ::tR::tS::tT::tU::tV::tW::tX::tY::tZ::uA::uB::uC::uD::uE::uF::uG::uH::uI::uJ::uK::uL::uM::uN::uO::uP::uQ::uR::uS::uT::uU::uV::uW::uX::uY::uZ::vA::vB::vC::vD::vE::vF::vG::vH::vI::vJ::vK::vL::vM::vN::vO::vP::vQ::vR::vS::vT::vU::vV::vW::vX::vY::vZ::wA::wB::wC::wD::wE::wF::wG::wH::wI::wJ::wK::wL::wM::wO::wP::wQ::wR::wS::wT::wU::wV::wW::wX::wY::wZ::xA::xB::xC::xD::xE::xF::xG::xH::xI::xJ::xK::xL::xM::xN::xO::xP::xQ::xR::xS::xT::xU::xV::xW::xX::xY::xZ::yA::yB::yC::yD::yE::yF::yG::yH::yI::yJ::yK::yL::yM::yN::yO::yP::yQ::yR::yS::yT::yU::yV::yW::yX::yY::yZ::zA::zB::zC::zD::zE::zF::zG::zH::zI::zJ::zK::zL::zM::zN::zO::zP::zQ::zR::zS::zT::zU::zV::zW::zX::zY::zZ::Aa::Ab::Ac::Ad::Ae::Af::Ag::Ah::Ai::Aj::Ak::Al::Am::An::Ao::Ap::Aq::Ar::As::Au::Av::Aw::Ax::Ay::Az::Ba::Bb::Bc::Bd::Be::Bf::Bg::Bh::Bi::Bj::Bk::Bl::Bm::Bn::Bo::Bp::Bq::Br::Bs::Bt::Bu::Bv::Bw::Bx::By::Bz::Ca::Cb::Cc::Cd::Ce::Cf::Cg::Ch::Ci::Cj::Ck::Cl::Cm::Cn::Co::Cp::Cq::Cr::Cs::Ct::Cu::Cv::Cw::Cx::Cy::Cz::Da::Db::Dc::Dd::De::Df::Dg::Dh::Di::Dj::Dk::Dl::Dm::Dn::Do::Dp::Dq::Dr::Ds::Dt::Du::Dv::Dw::Dx::Dy::Dz::Ea::Eb::Ec::Ed::Ee::Ef::Eg::Eh::Ei::Ej::Ek::El::[]), []⟩ w') : (piece [1, 1, 1, 1, 1, 1, 1, 1, 1, 1, 1, 1, 1, 1, 0, 1, 2, 1, 0, 1, 2, 1, 4, 4, 1, 0, 4, 1, 1, 1, 1, 0, 1] (Tryz.f3.body.getD .skip)).wp Tryz.prog Q ⟨List.toArray (aA::aB::aC::aD::aE::aF::aG::aH::aI::aJ::aK::aL::aM::aN::aO::aP::aQ::.string nx::aR::aS::aT::aU::aV::aW::aX::aY::aZ::bA::bB::bC::.string ⟨#[sb]⟩::bD::bE::bF::bG::.bool false::Em::bH::bI::bJ::bK::bL::bM::bN::bO::bP::bQ::bR::bS::bT::bU::bV::bW::bX::bY::bZ::cA::cB::cC::cD::cE::cF::cG::cH::cI::cJ::cK::cL::cM::cN::cO::cP::cQ::cR::cS::cT::cU::cV::cW::cX::cY::cZ::dA::dB::dC::dD::dE::dF::dG::dH::dI::dJ::dK::dL::dM::dN::dO::dP::dQ::dR::dS::dT::dU::dV::dW::dX::dY::dZ::eA::eB::eC::eD::eE::eF::eG::eH::eI::eJ::eK::eL::eM::eN::eO::eP::eQ::eR::eS::eT::eU::eV::eW::eX::eY::eZ::fA::fB::fC::fD::fE::fF::fG::fH::fI::fJ::fK::fL::fM::fN::fO::fP::fQ::fR::fS::fT::fU::fV::fW::fX::fY::fZ::gA::gB::gC::gD::gE::gF::gG::gH::gI::gJ::gK::gL::gM::gN::gO::gP::gQ::gR::gS::gT::gU::gV::gW::gX::gY::gZ::hA::hC::hD::hE::hF::hG::hH::hI::hJ::hK::hM::hN::hQ::hS::hT::hU::hV::hW::hX::hY::hZ::iA::iB::iC::iD::iE::iF::iG::iH::iI::iJ::iK::iL::iM::iN::iO::iP::iQ::iR::iS::iT::iU::iV::iW::iX::iY::iZ::jA::jB::jC::jD::jE::jF::jG::jH::jI::jJ::jK::jL::jM::jN::jO::jP::jQ::jR::jS::jT::jU::jV::jW::jX::jY::jZ::kA::kB::kC::kD::kE::kF::kG::kH::kI::kJ::kK::kL::kM::kN::kO::kP::kQ::kR::kS::kT::kU::kV::kW::kX::kY::kZ::lA::lB::lC::lD::lE::lF::lG::lH::lI::lJ::lK::lL::lM::lN::lO::lP::lQ::lR::lS::lT::lU::lV::lW::lX::lY::lZ::mA::mB::mC::mD::mE::mF::mG::mH::mI::mJ::mK::mL::mM::mN::mO::mP::mQ::mR::mS::mT::mU::mV::mW::mX::mY::mZ::nA::nB::nC::nD::nE::nF::nG::nH::nI::nJ::nK::nL::nM::nN::nO::nP::nQ::nR::nS::nT::nU::nV::nW::nX::nY::nZ::oA::oB::oC::oD::oE::oF::oG::oH::oI::oJ::oK::.pointer (some ⟨gi, 0, none⟩)::En::Eo::Ep::Eq::Er::Es::Et::Eu::Ev::Ew::Ex::Ey::oL::oM::oN::oO::oP::oQ::oR::oS::oT::oU::oV::oW::oX::oY::oZ::pA::pB::pC::pD::pE::pF::pG::pH::pI::pJ::pK::pL::pM::pN::pO::pP::pQ::pR::pS::pT::pU::pV::pW::pX::pY::pZ::qA::qB::qC::qD::qE::qF::qG::qH::qI::qJ::qK::qL::qM::qN::qO::qP::qQ::qR::qS::qT::qU::qV::qW::qX::qY::qZ::rA::rB::rC::rD::rE::rF::rG::rH::rI::rJ::rK::rL::rM::rN::rO::rP::rQ::rR::rS::rT::rU::rV::rX::rY::rZ::sA::sB::sC::sD::sE::sF::sG::sH::sI::sJ::sK::sL::sM::sN::sO::sP::sQ::sR::sS::sT::sU::sV::sW::sX::sY::sZ::tA::tB::tC::tE::tF::tG::tH::tI::tJ::tK::tL::tM::tN::tO::tP::tQ::tR::tS::tT::tU::tV::tW::tX::tY::tZ::uA::uB::uC::uD::uE::uF::uG::uH::uI::uJ::uK::uL::uM::uN::uO::uP::uQ::uR::uS::uT::uU::uV::uW::uX::uY::uZ::vA::vB::vC::vD::vE::vF::vG::vH::vI::vJ::vK::vL::vM::vN::vO::vP::vQ::vR::vS::vT::vU::vV::vW::vX::vY::vZ::wA::wB::wC::wD::wE::wF::wG::wH::wI::wJ::wK::wL::wM::wO::wP::wQ::wR::wS::wT::wU::wV::wW::wX::wY::wZ::xA::xB::xC::xD::xE::xF::xG::xH::xI::xJ::xK::xL::xM::xN::xO::xP::xQ::xR::xS::xT::xU::xV::xW::xX::xY::xZ::yA::yB::yC::yD::yE::yF::yG::yH::yI::yJ::yK::yL::yM::yN::yO::yP::yQ::yR::yS::yT::yU::yV::yW::yX::yY::yZ::zA::zB::zC::zD::zE::zF::zG::zH::zI::zJ::zK::zL::zM::zN::zO::zP::zQ::zR::zS::zT::zU::zV::zW::zX::zY::zZ::Aa::Ab::Ac::Ad::Ae::Af::Ag::Ah::Ai::Aj::Ak::Al::Am::An::Ao::Ap::Aq::Ar::As::Au::Av::Aw::Ax::Ay::Az::Ba::Bb::Bc::Bd::Be::Bf::Bg::Bh::Bi::Bj::Bk::Bl::Bm::Bn::Bo::Bp::Bq::Br::Bs::Bt::Bu::Bv::Bw::Bx::By::Bz::Ca::Cb::Cc::Cd::Ce::Cf::Cg::Ch::Ci::Cj::Ck::Cl::Cm::Cn::Co::Cp::Cq::Cr::Cs::Ct::Cu::Cv::Cw::Cx::Cy::Cz::Da::Db::Dc::Dd::De::Df::Dg::Dh::Di::Dj::Dk::Dl::Dm::Dn::Do::Dp::Dq::Dr::Ds::Dt::Du::Dv::Dw::Dx::Dy::Dz::Ea::Eb::Ec::Ed::Ee::Ef::Eg::Eh::Ei::Ej::Ek::El::[]), []⟩ w := by
  conv => arg 2; whnf
  have HK := Aside0.mk hk
  clear hk
  have e98 : ∀ h, ((({data := #[sb]} : ByteArray)[0]'h).toNat : Int) = (sb.toNat : Int) := fun _ => rfl
  go_wp2
  go_loopw [35] (fun Fm wr => ∃ k : Nat, k ≤ nx.size ∧ Fm = .bool ((nx.data.toList.take k).any (fun c => c == sb)) ∧ Aside0 (wr.heap[gi]? = some (.stringIter nx k)) ∧ Aside0 (Below w0.heap.size w0 wr) ∧ Aside0 (∀ b : Nat, b ≠ gi → wr.heap[b]? = w.heap[b]?)) (fun _ wr => nx.size - wr.iterPos gi)
  case atStart => exact ⟨0, Nat.zero_le _, rfl, HI0, HB0, ⟨fun _ _ => rfl⟩⟩
  case round =>
    obtain ⟨k, hkn, rfl, hL, hB, hO⟩ := hrel
    have hi3 := blk_lt hL.out
    by_cases hp : k < nx.size
    · have h128 : (nx[k]'hp).toNat < 128 := by
        have := List.all_eq_true.1 hasc.out (nx[k]'hp) (by rw [idx_data]; exact List.getElem_mem _)
        simpa using this
      have hnx0 := fun ty => Lib.run_next_ascii_at (P := Tryz.prog) wr gi nx k ty hL.out hp h128
      have hit0 := Lib.iterAt_heap wr gi nx k (k + 1) hL.out
      have hb0 := Lib.below_iterAt hB.out (k := gi) hge nx (k + 1)
      obtain ⟨W1, hW1⟩ : ∃ W1, wr.iterAt gi nx (k + 1) = W1 := ⟨_, rfl⟩
      have ho0 : ∀ b : Nat, b ≠ gi → (wr.iterAt gi nx (k + 1)).heap[b]? = w.heap[b]? := fun b hb => (Lib.iterAt_other wr gi b nx (k + 1) hb).trans (hO.out b hb)
      rw [hW1] at hit0 hb0 ho0
      have HO := Aside0.mk ho0
      have hnx : ∀ ty, (Instr.next (.pointer (some ⟨gi, 0, none⟩)) true ty).run Tryz.prog wr = .ok (.tuple #[.bool true, .int .i64 k, .int .i32 (nx[k]'hp).toNat]) W1 := fun ty => by rw [← hW1]; exact hnx0 ty
      clear hnx0 hW1
      have hst := take_snoc_b nx k hp
      have HS := Aside0.mk hst
      have HI := Aside0.mk hit0
      have HB := Aside0.mk hb0
      have AIT := Aside0.mk hL.out
      clear hst hit0 hb0 hL hB ho0 hO
      have hk0 : (0 : Int) ≤ (k : Int) := by omega
      have hk1 : (k : Int) < (nx.size : Int) := by omega
      obtain ⟨P, hP⟩ : ∃ P, (nx.data.toList.take k).any (fun c => c == sb) = P := ⟨_, rfl⟩
      rw [hP]
      have HP := Aside0.mk hP
      clear hP
      have fin : ∀ R : Bool, (P || (nx[k]'hp == sb)) = R → (nx.data.toList.take (k + 1)).any (fun c => c == sb) = R := by
        intro R hR
        rw [HS.out, List.any_append, HP.out]
        simpa using hR
      have FIN := Aside0.mk fin
      clear fin
      have lt2 : nx.size - W1.iterPos gi < nx.size - wr.iterPos gi := by
        rw [it_pos AIT.out, it_pos HI.out]
        omega
      have LT2 := Aside0.mk lt2
      clear lt2
      cases P
      · by_cases hc : nx[k]'hp = sb
        · have e1 : (((nx[k]'hp).toNat : Int) == (sb.toNat : Int)) = true := by rw [hc]; exact beq_self_eq_true _
          have HC := Aside0.mk hc
          clear hc
          go_wp2
          repeat (go_quiet (fail); try go_wp2)
          go_roundw
          case rel => exact ⟨k + 1, by omega, by rw [FIN.out true (by rw [HC.out]; simp)], ⟨HI.out⟩, ⟨by first | exact pw_below_drewN HB.out _ | exact HB.out⟩, ⟨HO.out⟩⟩
          case measure => exact LT2.out
        · have e1 : (((nx[k]'hp).toNat : Int) == (sb.toNat : Int)) = false := by
            rw [beq_eq_false_iff_ne]
            intro h
            exact hc (UInt8.toNat_inj.1 (by omega))
          have HC := Aside0.mk hc
          clear hc
          go_wp2
          repeat (go_quiet (fail); try go_wp2)
          go_roundw
          case rel => exact ⟨k + 1, by omega, by rw [FIN.out false (by simpa using HC.out)], ⟨HI.out⟩, ⟨by first | exact pw_below_drewN HB.out _ | exact HB.out⟩, ⟨HO.out⟩⟩
          case measure => exact LT2.out
      · go_wp2
        repeat (go_quiet (fail); try go_wp2)
        go_roundw
        case rel => exact ⟨k + 1, by omega, by rw [FIN.out true (by simp)], ⟨HI.out⟩, ⟨by first | exact pw_below_drewN HB.out _ | exact HB.out⟩, ⟨HO.out⟩⟩
        case measure => exact LT2.out
    · have hnx : ∀ ty, (Instr.next (.pointer (some ⟨gi, 0, none⟩)) true ty).run Tryz.prog wr = .ok (.tuple #[.bool false]) wr := fun ty => Lib.run_next_end_at wr gi nx k ty hL.out hp
      obtain rfl : k = nx.size := by omega
      have htake : nx.data.toList.take nx.size = nx.data.toList := List.take_of_length_le (Nat.le_refl _)
      rw [htake]
      clear htake
      go_wp2
      exact HK.out _ _ _ _ _ _ _ _ _ _ _ _ _  _ hB.out hO.out
end Go.Proofs.YtiknaldhjbdnbaaGreatDoor.QFnRacesWon
