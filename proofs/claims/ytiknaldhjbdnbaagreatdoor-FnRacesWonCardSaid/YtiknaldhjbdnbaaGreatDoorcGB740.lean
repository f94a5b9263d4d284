/- laws.FnRacesWon's test of a match: it is won by so many races. Conditions: each play of it is won, the match's answer is told by the counts. -/
import Derived.Test.YtiknaldhjbdnbaaGreatDoorcGInn
import Derived.Test.YtiknaldhjbdnbaaGreatDoorcQFnRacesWonx3
namespace Go.Proofs.YtiknaldhjbdnbaaGreatDoor.QFnRacesWon
open Go.RowKit Go.Proofs.YtiknaldhjbdnbaaGreatDoorW.PrintWords Go.Proofs.YtiknaldhjbdnbaaGreatDoorW.PrintLast Go.Proofs.YtiknaldhjbdnbaaGreatDoorW.PrintMore
set_option linter.unusedVariables false
set_option linter.unusedSimpArgs false
def cnt_ (f : Nat → Bool) : Nat → Int
  | 0 => 0
  | i + 1 => cnt_ f i + (if f i = true then 1 else 0)
theorem cnt_bd (f : Nat → Bool) (n : Nat) : 0 ≤ cnt_ f n ∧ cnt_ f n ≤ n := by
  induction n with
  | zero => simp [cnt_]
  | succ n ih =>
    simp only [cnt_]
    split <;> omega
theorem rd_at (l : List ByteArray) (n : Nat) (h : n < l.length) : rdOf ByteArray.empty l (n : Int) = l[n] := by
  unfold rdOf
  simp [List.getD_eq_getElem?_getD, List.getElem?_eq_getElem h]
structure MF (To Lead : Int) (pl : List ByteArray) (M : ByteArray) (wins : Int) (av : Nat → Bool) : Prop where
  len : pl.length ≤ 9
  each : ∀ i (h : i < pl.length), ∃ X, impl_WinnerOf.f To Lead pl[i] = some (X, true) ∧ (X.toList == ([45] : List UInt8)) = false ∧ (X.toList == ([97] : List UInt8)) = av i
  wa : (M.toList == ([97] : List UInt8)) = (cnt_ av pl.length == wins)
  wb : (M.toList == ([98] : List UInt8)) = (cnt_ (fun i => !av i) pl.length == wins)
  la : cnt_ av pl.length ≤ wins
  lb : cnt_ (fun i => !av i) pl.length ≤ wins
  nb : ¬ (cnt_ av pl.length = wins ∧ cnt_ (fun i => !av i) pl.length = wins)
set_option maxHeartbeats 8000000 in
set_option maxRecDepth 1000000 in
theorem blk740 (gr : Nat) (Ap : Option Addr) (cp : Nat) (pl : List ByteArray) (M : ByteArray) (wins To Lead : Int) (ok : Bool) (av : Nat → Bool) (w0 : World) (aD aE aF aG Cj aH aI aJ aK aL aM aN aO aP aQ aR aS aT aU aV aW aX aY aZ bA bB bC bD bE bF bG bH bI bJ bK bL bM bN bO bP bQ bR bS bT bU bV bW bX bY bZ cA cB cC cD cE cF cG cH cJ cK cL cM cN cO cP cQ cR cS cT cU cV cW cX cY cZ dA dB dC dD dE dF dG Ck Cl dH Cm Cn Co dI dJ dK dL dM dN dO dP dQ dR dS dT dU dV dW dX dY dZ eA eB eC eD eE eF eG eH eI eJ eK eL eM eN eO eP eQ eR eS eT eU eV eW eX eY eZ fA fB fC fD fE fF fG fH fI fJ fK fL fM fN fO fP fQ fR fS fT fU fV fW fX fY fZ gA gB gC gD gE gF gG gH gI gJ gK gL gM gN gO gP gQ gR gS gT gU gV gW gX gY gZ hA hB hC hD hE hF hG hH hI hJ hK hL hM hN hO hP hQ hR hS hT hU hV hW hX hY hZ iA iB iC iD iE iF iG iH iI iJ iK iL iM iN iO iP iQ iR iS iT iU iV iW iX iY iZ jA jB jC jD jE jF jG jH jI jJ jK jL jM jN jO jP jQ jR jS jT jU jV jW jX jY jZ kA kB kC kD kE kF kG kH kI kJ kK kL kM kN kO kP kQ kR kS kT kU kV kW kX kY kZ lA lB lC lD lE lF lG lH lI lJ lK lL lM lN lO lP lQ lR lS lT lU lV lW lX lY lZ mA mB mC mD mE mF mG mH mI mJ mK mL mM mN mO mP mQ mR mS mT mU mV mW mX mY mZ nA nB nC nD nE nF nG nH nI nJ nK nL nM nN nO nP nQ nR nS nT nU nV nW nX nY nZ oA oB oC oD oE oF oG oH oI oJ oK oL oM oN oO oP oQ oR oS oT oU oV oW oX oY oZ pA pB pC pD pE pF pG pH pI pJ pK pL pM pN pO pP pQ pR pS pT pU pV pW pX pY pZ qA qB qC qD qE qF qG qH qI qJ qK qL qM qN qO qP qQ qR qS qT qU qV qW qX qY qZ rA rB rC rD rE rF rG rH rI rJ rK rL rM rN rO rP rQ rR rS rT rU rV rX rY rZ sA sB sC sD sE sF sG sH sI sJ sK sL sM sN sO sP sQ sR sS sT sU sV sW sX sY sZ tA tB tC tE tF tG tH tI tJ tK tL tM tN tO tP tQ tR tS tT tU tV tW tX tY tZ uA uB uC uD uE uF uG uH uI uJ uK uL uM uN uO uP uQ uR uS uT uU uV uW uX uY uZ vA vB vC vD vE vF vG vH vI vJ vK vL vM vN vO vP vQ vR vS vT vU vV vW vX vY vZ wA wB wC wD wE wF wG wH wI wJ wK wL wM wN wO wP wQ wR wS wT wU wV wW wX wY wZ xA xB xC xD xE xF xG xH xI xJ xK xL xM xN xO xP xQ xR xS xT xU xV xW xX xY xZ yA yB yC yD yE yF yG yH yI yJ yK yL yM yN yO yP yQ yR yS yT yU yV yW yX yY yZ zA zB zC zD zE zF zG zH zI zJ zK zL zM zN zO zP zQ zR zS zT zU zV zW zX zY zZ Aa Ab Ac Ad Ae Af Ag Ah Ai Aj Ak Al Am An Ao Aq Ar As At Au Av Aw Ax Ay Az Ba Bb Bc Bd Be Bf Bg Bh Bi Bj Bk Bl Bm Bn Bo Bp Bq Br Bs Bt Bu Bv Bw Bx By Bz Ca Cb Cc Cd Ce Cf Cg Ch Ci Cp Cq Cr Cs Ct Cu Cv Cw Cx Cy Cz Da Db Dc Dd De Df Dg Dh Di Dj Dk Dl Dm Dn Do Dp Dq Dr Ds Dt Du Dv Dw Dx Dy Dz Ea Eb Ec Ed Ee Ef Eg Eh Ei Ej Ek El Em En Eo Ep Eq Er Es Et Eu Ev : Value) (w : World) (Q : Exit → Act → World → Prop)
    (HB0 : Aside0 (Below w0.heap.size w0 w)) (BK0 : Aside0 (w.heap[gr]? = some (.cells #[.int .i64 To, .int .i64 Lead] 25 (0, 0)))) (HC0 : Aside0 (Kd.C Kd.string w Ap pl.length pl)) (hw_ : ok = true → 1 ≤ wins ∧ wins ≤ 1000) (hf : ok = true → MF To Lead pl M wins av)
    (hk : ∀ (Ew aB aC Ex Ey Ez Fa Fb aA Fc Fd Fe Ff Fg Fh Fi Fj Fk Fl Fm Fn Fo Fp Fq Fr Fs Ft Fu Fv Fw Fx Fy Fz Ga Gb Gc Gd Ge Gf Gg Gh Gi Gj Gk Gl Gm Gn Gp Gq Gr Gs Gt Gu Gv Gw Gx Gy Gz Ha Hb Hc Hd He Hf Hg : Value) (w' : World), Below w0.heap.size w0 w' → Q .normal ⟨List.toArray (aD::aE::aF::aG::Ew::aH::aI::aJ::aK::aL::aM::aN::aO::aP::aQ::aR::aS::aT::aU::aV::aW::aX::aY::aZ::bA::bB::bC::bD::bE::bF::bG::bH::bI::bJ::bK::bL::bM::bN::bO::bP::bQ::bR::bS::bT::bU::bV::bW::bX::bY::bZ::cA::cB::cC::cD::cE::cF::cG::cH::cJ::cK::cL::cM::cN::cO::cP::.pointer (some ⟨gr, 0, none⟩)::.slice Ap pl.length cp::.int .i64 wins::.string M::cQ::cR::cS::cT::cU::cV::cW::cX::cY::cZ::dA::dB::dC::dD::dE::dF::dG::aB::aC::dH::Ex::Ey::Ez::dI::dJ::dK::dL::dM::dN::dO::dP::dQ::dR::dS::dT::dU::dV::dW::dX::dY::dZ::eA::eB::eC::eD::eE::eF::eG::eH::eI::eJ::eK::eL::eM::eN::eO::eP::eQ::eR::eS::eT::eU::eV::eW::eX::eY::eZ::fA::fB::fC::fD::fE::fF::fG::fH::fI::fJ::fK::fL::fM::fN::fO::fP::fQ::fR::fS::fT::fU::fV::fW::fX::fY::fZ::gA::gB::gC::gD::gE::gF::gG::gH::gI::gJ::gK::gL::gM::gN::gO::gP::gQ::gR::gS::gT::gU::gV::gW::gX::gY::gZ::hA::hB::hC::hD::hE::hF::hG::hH::hI::hJ::hK::hL::hM::hN::hO::hP::hQ::hR::hS::hT::hU::hV::hW::hX::hY::hZ::iA::iB::iC::iD::iE::iF::iG::iH::iI::iJ::iK::iL::iM::iN::iO::iP::iQ::iR::iS::iT::iU::iV::iW::iX::iY::iZ::jA::jB::jC::jD::jE::jF::jG::jH::jI::jJ::jK::jL::jM::jN::jO::jP::jQ::jR::jS::jT::jU::jV::jW::jX::jY::jZ::kA::kB::kC::kD::kE::kF::kG::kH::kI::kJ::kK::kL::kM::kN::kO::kP::kQ::kR::kS::kT::kU::kV::kW::kX::kY::kZ::lA::lB::lC::lD::lE::lF::lG::lH::lI::lJ::lK::lL::lM::lN::lO::lP::lQ::lR::lS::lT::lU::lV::lW::lX::lY::lZ::mA::mB::mC::mD::mE::mF::mG::mH::mI::mJ::mK::mL::mM::mN::mO::mP::mQ::mR::mS::mT::mU::mV::mW::mX::mY::mZ::nA::nB::nC::nD::nE::nF::nG::nH::nI::nJ::nK::nL::nM::nN::nO::nP::nQ::nR::nS::nT::nU::nV::nW::nX::nY::nZ::oA::oB::oC::oD::oE::oF::oG::oH::oI::oJ::oK::oL::oM::oN::oO::oP::oQ::oR::oS::oT::oU::oV::oW::oX::oY::oZ::pA::pB::pC::pD::pE::pF::pG::pH::pI::pJ::pK::pL::pM::pN::pO::pP::pQ::pR::pS::pT::pU::pV::pW::pX::pY::pZ::qA::qB::qC::qD::qE::qF::qG::qH::qI::qJ::qK::qL::qM::qN::qO::qP::qQ::qR::qS::qT::qU::qV::qW::qX::qY::qZ::rA::rB::rC::rD::rE::rF::rG::rH::rI::rJ::rK::rL::rM::rN::rO::rP::rQ::rR::rS::rT::rU::rV::rX::rY::rZ::sA::sB::sC::sD::sE::sF::sG::sH::sI::sJ::sK::sL::sM::sN::sO::sP::sQ::sR::sS::sT::sU::sV::sW::sX::sY::sZ::tA::tB::tC::tE::tF::tG::tH::tI::tJ::tK::tL::tM::tN::tO::tP::tQ::tR::tS::tT::tU::tV::tW::tX::tY::tZ::uA::uB::uC::uD::uE::uF::uG::uH::uI::uJ::uK::uL::uM::uN::uO::uP::uQ::uR::uS::uT::uU::uV::uW::uX::uY::uZ::vA::vB::vC::vD::vE::vF::vG::vH::vI::vJ::vK::vL::vM::vN::vO::vP::vQ::vR::vS::vT::vU::vV::vW::vX::vY::vZ::wA::wB::wC::wD::wE::wF::wG::wH::wI::wJ::wK::wL::wM::wN::wO::wP::wQ::wR::wS::wT::wU::wV::wW::wX::wY::wZ::xA::xB::xC::xD::xE::xF::xG::xH::xI::xJ::xK::xL::xM::xN::xO::xP::xQ::xR::xS::xT::xU::xV::xW::xX::xY::xZ::yA::yB::yC::yD::yE::yF::yG::yH::yI::yJ::yK::yL::yM::yN::yO::yP::yQ::yR::yS::yT::yU::yV::yW::yX::yY::yZ::zA::zB::zC::zD::zE::zF::zG::zH::zI::zJ::zK::zL::zM::zN::zO::zP::zQ::zR::zS::zT::zU::zV::zW::zX::zY::zZ::Aa::Ab::Ac::Ad::Ae::Af::Ag::Ah::Ai::Aj::Ak::Al::Am::An::Ao::Aq::Ar::As::At::Au::Av::Aw::Ax::Ay::Az::Ba::Bb::Bc::Bd::Be::Bf::Bg::Bh::Bi::Bj::Bk::Bl::Bm::Bn::Bo::Bp::Bq::Br::Bs::Bt::Bu::Bv::Bw::Bx::By::Bz::Ca::Cb::Cc::Cd::Ce::Cf::Cg::Ch::Ci::.bool ok::Fa::Fb::aA::Fc::Fd::Fe::Ff::Fg::Fh::Fi::Fj::Fk::Fl::Fm::Fn::Fo::Fp::Fq::Fr::Fs::Ft::Fu::Fv::Fw::Fx::Fy::Fz::Ga::Gb::Gc::Gd::Ge::Gf::Gg::Gh::Gi::Gj::Gk::Gl::Gm::Gn::Gp::Gq::Gr::Gs::Gt::Gu::Gv::Gw::Gx::Gy::Gz::Ha::Hb::Hc::Hd::He::Hf::Hg::[]), []⟩ w') : (piece [1, 1, 1, 1, 1, 1, 1, 1, 1, 1, 1, 1, 1, 1, 1, 1, 1, 1, 1, 1, 1, 1, 1, 1, 1, 1, 1, 1, 1, 1, 1, 1, 1, 1, 1, 0, 1] (Tryz.f3.body.getD .skip)).wp Tryz.prog Q ⟨List.toArray (aD::aE::aF::aG::Cj::aH::aI::aJ::aK::aL::aM::aN::aO::aP::aQ::aR::aS::aT::aU::aV::aW::aX::aY::aZ::bA::bB::bC::bD::bE::bF::bG::bH::bI::bJ::bK::bL::bM::bN::bO::bP::bQ::bR::bS::bT::bU::bV::bW::bX::bY::bZ::cA::cB::cC::cD::cE::cF::cG::cH::cJ::cK::cL::cM::cN::cO::cP::.pointer (some ⟨gr, 0, none⟩)::.slice Ap pl.length cp::.int .i64 wins::.string M::cQ::cR::cS::cT::cU::cV::cW::cX::cY::cZ::dA::dB::dC::dD::dE::dF::dG::Ck::Cl::dH::Cm::Cn::Co::dI::dJ::dK::dL::dM::dN::dO::dP::dQ::dR::dS::dT::dU::dV::dW::dX::dY::dZ::eA::eB::eC::eD::eE::eF::eG::eH::eI::eJ::eK::eL::eM::eN::eO::eP::eQ::eR::eS::eT::eU::eV::eW::eX::eY::eZ::fA::fB::fC::fD::fE::fF::fG::fH::fI::fJ::fK::fL::fM::fN::fO::fP::fQ::fR::fS::fT::fU::fV::fW::fX::fY::fZ::gA::gB::gC::gD::gE::gF::gG::gH::gI::gJ::gK::gL::gM::gN::gO::gP::gQ::gR::gS::gT::gU::gV::gW::gX::gY::gZ::hA::hB::hC::hD::hE::hF::hG::hH::hI::hJ::hK::hL::hM::hN::hO::hP::hQ::hR::hS::hT::hU::hV::hW::hX::hY::hZ::iA::iB::iC::iD::iE::iF::iG::iH::iI::iJ::iK::iL::iM::iN::iO::iP::iQ::iR::iS::iT::iU::iV::iW::iX::iY::iZ::jA::jB::jC::jD::jE::jF::jG::jH::jI::jJ::jK::jL::jM::jN::jO::jP::jQ::jR::jS::jT::jU::jV::jW::jX::jY::jZ::kA::kB::kC::kD::kE::kF::kG::kH::kI::kJ::kK::kL::kM::kN::kO::kP::kQ::kR::kS::kT::kU::kV::kW::kX::kY::kZ::lA::lB::lC::lD::lE::lF::lG::lH::lI::lJ::lK::lL::lM::lN::lO::lP::lQ::lR::lS::lT::lU::lV::lW::lX::lY::lZ::mA::mB::mC::mD::mE::mF::mG::mH::mI::mJ::mK::mL::mM::mN::mO::mP::mQ::mR::mS::mT::mU::mV::mW::mX::mY::mZ::nA::nB::nC::nD::nE::nF::nG::nH::nI::nJ::nK::nL::nM::nN::nO::nP::nQ::nR::nS::nT::nU::nV::nW::nX::nY::nZ::oA::oB::oC::oD::oE::oF::oG::oH::oI::oJ::oK::oL::oM::oN::oO::oP::oQ::oR::oS::oT::oU::oV::oW::oX::oY::oZ::pA::pB::pC::pD::pE::pF::pG::pH::pI::pJ::pK::pL::pM::pN::pO::pP::pQ::pR::pS::pT::pU::pV::pW::pX::pY::pZ::qA::qB::qC::qD::qE::qF::qG::qH::qI::qJ::qK::qL::qM::qN::qO::qP::qQ::qR::qS::qT::qU::qV::qW::qX::qY::qZ::rA::rB::rC::rD::rE::rF::rG::rH::rI::rJ::rK::rL::rM::rN::rO::rP::rQ::rR::rS::rT::rU::rV::rX::rY::rZ::sA::sB::sC::sD::sE::sF::sG::sH::sI::sJ::sK::sL::sM::sN::sO::sP::sQ::sR::sS::sT::sU::sV::sW::sX::sY::sZ::tA::tB::tC::tE::tF::tG::tH::tI::tJ::tK::tL::tM::tN::tO::tP::tQ::tR::tS::tT::tU::tV::tW::tX::tY::tZ::uA::uB::uC::uD::uE::uF::uG::uH::uI::uJ::uK::uL::uM::uN::uO::uP::uQ::uR::uS::uT::uU::uV::uW::uX::uY::uZ::vA::vB::vC::vD::vE::vF::vG::vH::vI::vJ::vK::vL::vM::vN::vO::vP::vQ::vR::vS::vT::vU::vV::vW::vX::vY::vZ::wA::wB::wC::wD::wE::wF::wG::wH::wI::wJ::wK::wL::wM::wN::wO::wP::wQ::wR::wS::wT::wU::wV::wW::wX::wY::wZ::xA::xB::xC::xD::xE::xF::xG::xH::xI::xJ::xK::xL::xM::xN::xO::xP::xQ::xR::xS::xT::xU::xV::xW::xX::xY::xZ::yA::yB::yC::yD::yE::yF::yG::yH::yI::yJ::yK::yL::yM::yN::yO::yP::yQ::yR::yS::yT::yU::yV::yW::yX::yY::yZ::zA::zB::zC::zD::zE::zF::zG::zH::zI::zJ::zK::zL::zM::zN::zO::zP::zQ::zR::zS::zT::zU::zV::zW::zX::zY::zZ::Aa::Ab::Ac::Ad::Ae::Af::Ag::Ah::Ai::Aj::Ak::Al::Am::An::Ao::Aq::Ar::As::At::Au::Av::Aw::Ax::Ay::Az::Ba::Bb::Bc::Bd::Be::Bf::Bg::Bh::Bi::Bj::Bk::Bl::Bm::Bn::Bo::Bp::Bq::Br::Bs::Bt::Bu::Bv::Bw::Bx::By::Bz::Ca::Cb::Cc::Cd::Ce::Cf::Cg::Ch::Ci::.bool ok::Cp::Cq::Cr::Cs::Ct::Cu::Cv::Cw::Cx::Cy::Cz::Da::Db::Dc::Dd::De::Df::Dg::Dh::Di::Dj::Dk::Dl::Dm::Dn::Do::Dp::Dq::Dr::Ds::Dt::Du::Dv::Dw::Dx::Dy::Dz::Ea::Eb::Ec::Ed::Ee::Ef::Eg::Eh::Ei::Ej::Ek::El::Em::En::Eo::Ep::Eq::Er::Es::Et::Eu::Ev::[]), []⟩ w := by
  conv => arg 2; whnf
  have HK := Aside0.mk hk
  clear hk
  have hu25 := Tryz.underlying25
  cases ok
  · go_wp2
    exact HK.out _ _ _ _ _ _ _ _ _ _ _ _ _ _ _ _ _ _ _ _ _ _ _ _ _ _ _ _ _ _ _ _ _ _ _ _ _ _ _ _ _ _ _ _ _ _ _ _ _ _ _ _ _ _ _ _ _ _ _ _ _ _ _ _ _  w HB0.out
  · have hw := hw_ rfl
    have F := Aside0.mk (hf rfl)
    clear hw_
    clear hf
    have hl9 : (pl.length : Int) ≤ 9 := by have := F.out.len; omega
    go_wp2
    go_loopw [86, 87, 743] (fun aB aC aA wr => ∃ i : Nat, i ≤ pl.length ∧ aA = .int .i64 i ∧ aB = .int .i64 (cnt_ av i) ∧ aC = .int .i64 (cnt_ (fun j => !av j) i) ∧ Aside0 (Below w0.heap.size w0 wr) ∧ Aside0 (Below w.heap.size w wr)) (fun _ _ aA _ => pl.length - (intOf aA).toNat)
    case atStart => exact ⟨0, Nat.zero_le _, rfl, rfl, rfl, HB0, ⟨Below.refl _ _⟩⟩
    case round =>
      obtain ⟨i, hi, rfl, rfl, rfl, HB, HX⟩ := hrel
      have BK := Aside0.mk (blk_below BK0.out HX.out)
      by_cases hp : i < pl.length
      · obtain ⟨X, hX1, hX2, hX3⟩ := F.out.each i hp
        have hXW := Aside0.mk hX1
        have q0 : wr.cell? ⟨gr, 0, none⟩ = some (.int .i64 To) := (blk_cell BK.out 0).trans rfl
        have q1 : wr.cell? ⟨gr, 1, none⟩ = some (.int .i64 Lead) := (blk_cell BK.out 1).trans rfl
        have p_ : (0 : Int) ≤ (i : Int) := by omega
        have q_ : (i : Int) < (pl.length : Int) := by omega
        obtain ⟨ad, ead, hx⟩ := Kd.at_string HC0.out (i : Int) p_ q_
        cases ead
        rw [rd_at pl i hp] at hx
        simp only [Int.toNat_natCast] at hx
        replace hx := (HX.out.cell (World.block_lt_of_cell? w _ hx)).trans hx
        have hdec : decide (i < pl.length) = true := decide_eq_true hp
        have hdecI : decide ((i : Int) < (pl.length : Int)) = true := decide_eq_true q_
        replace p_ := eq_true p_
        replace q_ := eq_true q_
        have n1 : (X.toList != ([45] : List UInt8)) = true := by rw [show (X.toList != ([45] : List UInt8)) = !(X.toList == ([45] : List UInt8)) from rfl, hX2]; rfl
        have c1 := cnt_bd av i
        have c2 := cnt_bd (fun j => !av j) i
        have s1 : cnt_ av (i + 1) = cnt_ av i + (if av i = true then 1 else 0) := rfl
        have s2 : cnt_ (fun j => !av j) (i + 1) = cnt_ (fun j => !av j) i + (if (!av i) = true then 1 else 0) := rfl
        obtain ⟨ca, hca⟩ : ∃ z, cnt_ av i = z := ⟨_, rfl⟩
        obtain ⟨cb, hcb⟩ : ∃ z, cnt_ (fun j => !av j) i = z := ⟨_, rfl⟩
        rw [hca] at s1 c1
        rw [hcb] at s2 c2
        rw [hca, hcb]
        obtain ⟨v, hv⟩ : ∃ v, av i = v := ⟨_, rfl⟩
        rw [hv] at s1 s2 hX3
        have hm0 : 0 ≤ ca := c1.1
        have hm1 : ca ≤ 9 := by have := c1.2; omega
        have hn0 : 0 ≤ cb := c2.1
        have hn1 : cb ≤ 9 := by have := c2.2; omega
        have hi0 : (i : Int) ≤ 9 := by omega
        have S1 := Aside0.mk s1
        have S2 := Aside0.mk s2
        clear s1 s2 hca hcb c1 c2 hX1 hv
        cases v
        all_goals
          go_wp2_with (go_at_call 6; (with_reducible refine (impl_WinnerOf.calls To Lead _ X true _ hXW.out).mono ?_); rintro e w1 ⟨rfl, hb⟩; have HB2 := Aside0.mk (below_step HB.out hb); have HX2 := Aside0.mk (below_step HX.out hb); clear HB HX BK hb q0 q1 hx; have HB := HB2; have HX := HX2; clear HB2 HX2)
          go_roundw
          case rel => exact ⟨i + 1, hp, by go_num, by rw [S1.out]; simp, by rw [S2.out]; simp, HB, HX⟩
          case measure => simp [intOf]; omega
      · obtain rfl : i = pl.length := by omega
        have hdec : decide (pl.length < pl.length) = false := by simp
        have e1 := F.out.wa
        have e2 := F.out.wb
        have e3 := F.out.la
        have e4 := F.out.lb
        have e5 := F.out.nb
        have c1 := cnt_bd av pl.length
        have c2 := cnt_bd (fun j => !av j) pl.length
        generalize cnt_ av pl.length = ca at *
        generalize cnt_ (fun j => !av j) pl.length = cb at *
        have d3 : decide (wins < ca) = false := decide_eq_false (by omega)
        have d4 : decide (wins < cb) = false := decide_eq_false (by omega)
        clear e3 e4 c1 c2
        by_cases g1 : ca = wins
        · have g2 : ¬ cb = wins := fun h => e5 ⟨g1, h⟩
          have b1 : (ca == wins) = true := beq_iff_eq.mpr g1
          have b2 : (cb == wins) = false := beq_eq_false_iff_ne.mpr g2
          rw [b1] at e1
          rw [b2] at e2
          clear e5 g1 g2
          go_wp2
          exact HK.out _ _ _ _ _ _ _ _ _ _ _ _ _ _ _ _ _ _ _ _ _ _ _ _ _ _ _ _ _ _ _ _ _ _ _ _ _ _ _ _ _ _ _ _ _ _ _ _ _ _ _ _ _ _ _ _ _ _ _ _ _ _ _ _ _  wr HB.out
        · have b1 : (ca == wins) = false := beq_eq_false_iff_ne.mpr g1
          rw [b1] at e1
          clear e5 g1
          by_cases g2 : cb = wins
          · have b2 : (cb == wins) = true := beq_iff_eq.mpr g2
            rw [b2] at e2
            clear g2
            go_wp2
            exact HK.out _ _ _ _ _ _ _ _ _ _ _ _ _ _ _ _ _ _ _ _ _ _ _ _ _ _ _ _ _ _ _ _ _ _ _ _ _ _ _ _ _ _ _ _ _ _ _ _ _ _ _ _ _ _ _ _ _ _ _ _ _ _ _ _ _  wr HB.out
          · have b2 : (cb == wins) = false := beq_eq_false_iff_ne.mpr g2
            rw [b2] at e2
            clear g2
            go_wp2
            exact HK.out _ _ _ _ _ _ _ _ _ _ _ _ _ _ _ _ _ _ _ _ _ _ _ _ _ _ _ _ _ _ _ _ _ _ _ _ _ _ _ _ _ _ _ _ _ _ _ _ _ _ _ _ _ _ _ _ _ _ _ _ _ _ _ _ _  wr HB.out
end Go.Proofs.YtiknaldhjbdnbaaGreatDoor.QFnRacesWon
