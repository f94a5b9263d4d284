/- laws.FnRacesWon's test of who serves. Conditions: the servers stand in blocks, the counts are told. -/
import Derived.Test.YtiknaldhjbdnbaaGreatDoorcGR75
namespace Go.Proofs.YtiknaldhjbdnbaaGreatDoor.QFnRacesWon
open Go.RowKit Go.Proofs.YtiknaldhjbdnbaaGreatDoorW.PrintWords Go.Proofs.YtiknaldhjbdnbaaGreatDoorW.PrintLast Go.Proofs.YtiknaldhjbdnbaaGreatDoorW.PrintMore
set_option linter.unusedVariables false
set_option linter.unusedSimpArgs false
structure SF (pl sv : ByteArray) (t c d : Int) (x y : Nat → Int) : Prop where
  len : sv.size = pl.size
  small : pl.size ≤ 1000
  turn : 1 ≤ t ∧ t ≤ 10
  asc : sv.data.toList.all (fun c => decide (c.toNat < 128)) = true
  hx : ∀ i (h : i < sv.size), ((sv[i]'h).toNat : Int) = x i
  hy : ∀ i (h : i < pl.size), ((pl[i]'h).toNat : Int) = y i
  x0 : 0 < pl.size → x 0 = 97
  same : ∀ i, i + 1 < pl.size → Int.tmod ((i + 1 : Nat) : Int) t ≠ 0 → x (i + 1) = x i
  turns : ∀ i, i + 1 < pl.size → Int.tmod ((i + 1 : Nat) : Int) t = 0 → x (i + 1) ≠ x i
  hc : cnt_ (fun j => decide (x j = y j) && decide (y j = 97)) pl.size = c
  hd : cnt_ (fun j => decide (x j = y j) && !decide (y j = 97)) pl.size = d
set_option maxHeartbeats 8000000 in
set_option maxRecDepth 1000000 in
theorem blk663 (pl sv : ByteArray) (t c d : Int) (ok : Bool) (x y : Nat → Int) (w0 : World) (aC aD aE aF Bw aG aH aI aJ aK aL aM aN aO aP aQ aR aS aT aU aV aW aX aY aZ bA bB bC bD bE bF bG bH bI bJ bK bL bM bN bO bP bQ bR bS bT bU bV bW bX bY bZ cA cB cC cD cE cF cG cH cI cJ cK cL cM cN cO cP cQ cR cS cT cU cV cW cX cY cZ dA Bx By Bz dB dC dD dE dF dG dH dI dJ dK dL dM dN dO dP dQ dR dS dT dU dV dW dX dY dZ eA eB eC eD eE eF eG eH eI eJ eK eL eM eN eO eP eQ eR eS eT eU eV eW eX eY eZ fA fB fC fD fE fF fG fH fI fJ fK fL fM fN fO fP fQ fR fS fT fU fV fW fX fY fZ gA gB gC gD gE gF gG gH gI gJ gK gL gM gN gO gP gQ gR gS gT gU gV gW gX gY gZ hA hC hD hE hF hG hH hI hJ hK hM hN hO hP hQ hR hS hT hU hV hW hZ iA iB iC iD iE iF iG iH iI iJ iK iL iM iN iO iP iQ iR iS iT iU iV iW iX iY iZ jA jB jC jD jE jF jG jH jI jJ jK jL jM jN jO jP jQ jR jS jT jU jV jW jX jY jZ kA kB kC kD kE kF kG kH kI kJ kK kL kM kN kO kP kQ kR kS kT kU kV kW kX kY kZ lA lB lC lD lE lF lG lH lI lJ lK lL lM lN lO lP lQ lR lS lT lU lV lW lX lY lZ mA mB mC mD mE mF mG mH mI mJ mK mL mM mN mO mP mQ mR mS mT mU mV mW mX mY mZ nA nB nC nD nE nF nG nH nI nJ nK nL nM nN nO nP nQ nR nS nT nU nV nW nX nY nZ oA oB oC oD oE oF oG oH oI oJ oK oL oM oN oO oP oQ oR oS oT oU oV oW oX oY oZ pA pB pC pD pE pF pG pH pI pJ pK pL pM pN pO pP pQ pR pS pT pU pV pW pX pY pZ qA qB qC qD qE qF qG qH qI qJ qK qL qM qN qO qP qQ qR qS qT qU qV qW qX qY qZ rA rB rC rD rE rF rG rH rI rJ rK rL rM rN rO rP rQ rR rS rT rU rV rX rY rZ sA sB sC sD sE sF sG sH sI sJ sK sL sM sN sO sP sQ sR sS sT sU sV sW sX sY sZ tA tB tC tE tF tG tH tI tJ tK tL tM tN tO tP tQ tR tS tT tU tV tW tX tY tZ uA uB uC uD uE uF uG uH uI uJ uK uL uM uN uO uP uQ uR uS uT uU uV uW uX uY uZ vA vB vC vD vE vF vG vH vI vJ vK vL vM vN vO vP vQ vR vS vT vU vV vW vX vY vZ wA wB wC wD wE wF wG wH wI wJ wK wL wM wO wP wQ wR wS wT wU wV wW wX wY wZ xA xB xC xD xE xF xG xH xI xJ xK xL xM xN xO xP xQ xR xS xT xU xV xW xX xY xZ yA yB yC yD yE yF yG yH yI yJ yK yL yM yN yO yP yQ yR yS yT yU yV yW yX yY yZ zA zB zC zD zE zF zG zH zI zJ zK zL zM Ca Cb Cc Cd Ce Cf Cg Ch Ci Cj Ck Cl Cm Cn Co Cp Cq Cr Cs Ct Cu Cv Cw Cx Cy Cz Da Db Dc Dd De Df Dg Dh Di Dj Dk Dl Dm Dn Do Dp Dq Dr Ds Dt Du Dv Dw Dx Dy Dz Ea Eb Ec Ed Ee Ef Eg Eh Ei Ej Ek El Em En Eo Ep Eq Er Es Et Eu Ev Ew Ex zN zO zP zQ zR zS zT zU zV zW zX zY zZ Aa Ab Ac Ad Ae Af Ag Ah Ai Aj Ak Al Am An Ao Ap Aq Ar As Au Av Aw Ax Ay Az Ba Bb Bc Bd Be Bf Bg Bh Bi Bj Bk Bl Bm Bn Bo Bp Bq Br Bs Bt Bu Bv : Value) (w : World) (Q : Exit → Act → World → Prop)
    (HB0 : Aside0 (Below w0.heap.size w0 w)) (hf : ok = true → SF pl sv t c d x y)
    (hk : ∀ (Ey aA aB Ez Fa Fb Fc Fd Fe Ff Fg Fh Fi Fj Fk Fl Fm Fn Fo Fp Fq Fr Fs Ft Fu Fv Fw Fx Fy Fz Ga Gb Gc Gd Ge Gf Gg Gh Gi Gj Gk Gl Gm Gn Gp Gq Gr Gs Gt Gu Gv Gw Gx Gy Gz Ha Hb Hc Hd He Hf Hg Hh Hi Hj Hk Hl Hm Hn Ho Hp Hq Hr Hs Ht Hu Hv Hw Hx Hy : Value) (w' : World), Below w0.heap.size w0 w' → Q .normal ⟨List.toArray (aC::aD::aE::aF::Ey::aG::aH::aI::aJ::aK::aL::aM::aN::aO::aP::aQ::aR::aS::aT::aU::aV::aW::aX::aY::aZ::bA::bB::bC::bD::bE::bF::bG::bH::bI::bJ::bK::bL::bM::bN::bO::bP::bQ::bR::bS::bT::bU::bV::bW::bX::bY::bZ::cA::cB::.string pl::.int .i64 t::.string sv::cC::cD::cE::.int .i64 c::.int .i64 d::cF::cG::cH::cI::cJ::cK::cL::cM::cN::cO::cP::cQ::cR::cS::cT::cU::cV::cW::cX::cY::cZ::dA::aA::aB::Ez::dB::dC::dD::dE::dF::dG::dH::dI::dJ::dK::dL::dM::dN::dO::dP::dQ::dR::dS::dT::dU::dV::dW::dX::dY::dZ::eA::eB::eC::eD::eE::eF::eG::eH::eI::eJ::eK::eL::eM::eN::eO::eP::eQ::eR::eS::eT::eU::eV::eW::eX::eY::eZ::fA::fB::fC::fD::fE::fF::fG::fH::fI::fJ::fK::fL::fM::fN::fO::fP::fQ::fR::fS::fT::fU::fV::fW::fX::fY::fZ::gA::gB::gC::gD::gE::gF::gG::gH::gI::gJ::gK::gL::gM::gN::gO::gP::gQ::gR::gS::gT::gU::gV::gW::gX::gY::gZ::hA::hC::hD::hE::hF::hG::hH::hI::hJ::hK::hM::hN::hO::hP::hQ::hR::hS::hT::hU::hV::hW::hZ::iA::iB::iC::iD::iE::iF::iG::iH::iI::iJ::iK::iL::iM::iN::iO::iP::iQ::iR::iS::iT::iU::iV::iW::iX::iY::iZ::jA::jB::jC::jD::jE::jF::jG::jH::jI::jJ::jK::jL::jM::jN::jO::jP::jQ::jR::jS::jT::jU::jV::jW::jX::jY::jZ::kA::kB::kC::kD::kE::kF::kG::kH::kI::kJ::kK::kL::kM::kN::kO::kP::kQ::kR::kS::kT::kU::kV::kW::kX::kY::kZ::lA::lB::lC::lD::lE::lF::lG::lH::lI::lJ::lK::lL::lM::lN::lO::lP::lQ::lR::lS::lT::lU::lV::lW::lX::lY::lZ::mA::mB::mC::mD::mE::mF::mG::mH::mI::mJ::mK::mL::mM::mN::mO::mP::mQ::mR::mS::mT::mU::mV::mW::mX::mY::mZ::nA::nB::nC::nD::nE::nF::nG::nH::nI::nJ::nK::nL::nM::nN::nO::nP::nQ::nR::nS::nT::nU::nV::nW::nX::nY::nZ::oA::oB::oC::oD::oE::oF::oG::oH::oI::oJ::oK::oL::oM::oN::oO::oP::oQ::oR::oS::oT::oU::oV::oW::oX::oY::oZ::pA::pB::pC::pD::pE::pF::pG::pH::pI::pJ::pK::pL::pM::pN::pO::pP::pQ::pR::pS::pT::pU::pV::pW::pX::pY::pZ::qA::qB::qC::qD::qE::qF::qG::qH::qI::qJ::qK::qL::qM::qN::qO::qP::qQ::qR::qS::qT::qU::qV::qW::qX::qY::qZ::rA::rB::rC::rD::rE::rF::rG::rH::rI::rJ::rK::rL::rM::rN::rO::rP::rQ::rR::rS::rT::rU::rV::rX::rY::rZ::sA::sB::sC::sD::sE::sF::sG::sH::sI::sJ::sK::sL::sM::sN::sO::sP::sQ::sR::sS::sT::sU::sV::sW::sX::sY::sZ::tA::tB::tC::tE::tF::tG::tH::tI::tJ::tK::tL::tM::tN::tO::tP::tQ::tR::tS::tT::tU::tV::tW::tX::tY::tZ::uA::uB::uC::uD::uE::uF::uG::uH::uI::uJ::uK::uL::uM::uN::uO::uP::uQ::uR::uS::uT::uU::uV::uW::uX::uY::uZ::vA::vB::vC::vD::vE::vF::vG::vH::vI::vJ::vK::vL::vM::vN::vO::vP::vQ::vR::vS::vT::vU::vV::vW::vX::vY::vZ::wA::wB::wC::wD::wE::wF::wG::wH::wI::wJ::wK::wL::wM::wO::wP::wQ::wR::wS::wT::wU::wV::wW::wX::wY::wZ::xA::xB::xC::xD::xE::xF::xG::xH::xI::xJ::xK::xL::xM::xN::xO::xP::xQ::xR::xS::xT::xU::xV::xW::xX::xY::xZ::yA::yB::yC::yD::yE::yF::yG::yH::yI::yJ::yK::yL::yM::yN::yO::yP::yQ::yR::yS::yT::yU::yV::yW::yX::yY::yZ::zA::zB::zC::zD::zE::zF::zG::zH::zI::zJ::zK::zL::zM::.bool ok::Fa::Fb::Fc::Fd::Fe::Ff::Fg::Fh::Fi::Fj::Fk::Fl::Fm::Fn::Fo::Fp::Fq::Fr::Fs::Ft::Fu::Fv::Fw::Fx::Fy::Fz::Ga::Gb::Gc::Gd::Ge::Gf::Gg::Gh::Gi::Gj::Gk::Gl::Gm::Gn::Gp::Gq::Gr::Gs::Gt::Gu::Gv::Gw::Gx::Gy::Gz::Ha::Hb::Hc::Hd::He::Hf::Hg::Hh::Hi::Hj::Hk::Hl::Hm::Hn::Ho::Hp::Hq::Hr::Hs::Ht::Hu::Hv::Hw::Hx::Hy::zN::zO::zP::zQ::zR::zS::zT::zU::zV::zW::zX::zY::zZ::Aa::Ab::Ac::Ad::Ae::Af::Ag::Ah::Ai::Aj::Ak::Al::Am::An::Ao::Ap::Aq::Ar::As::Au::Av::Aw::Ax::Ay::Az::Ba::Bb::Bc::Bd::Be::Bf::Bg::Bh::Bi::Bj::Bk::Bl::Bm::Bn::Bo::Bp::Bq::Br::Bs::Bt::Bu::Bv::[]), []⟩ w') : (piece [1, 1, 1, 1, 1, 1, 1, 1, 1, 1, 1, 1, 1, 1, 1, 1, 1, 1, 1, 1, 1, 1, 1, 1, 1, 1, 1, 1, 1, 1, 1, 1, 1, 1, 0, 1] (Tryz.f3.body.getD .skip)).wp Tryz.prog Q ⟨List.toArray (aC::aD::aE::aF::Bw::aG::aH::aI::aJ::aK::aL::aM::aN::aO::aP::aQ::aR::aS::aT::aU::aV::aW::aX::aY::aZ::bA::bB::bC::bD::bE::bF::bG::bH::bI::bJ::bK::bL::bM::bN::bO::bP::bQ::bR::bS::bT::bU::bV::bW::bX::bY::bZ::cA::cB::.string pl::.int .i64 t::.string sv::cC::cD::cE::.int .i64 c::.int .i64 d::cF::cG::cH::cI::cJ::cK::cL::cM::cN::cO::cP::cQ::cR::cS::cT::cU::cV::cW::cX::cY::cZ::dA::Bx::By::Bz::dB::dC::dD::dE::dF::dG::dH::dI::dJ::dK::dL::dM::dN::dO::dP::dQ::dR::dS::dT::dU::dV::dW::dX::dY::dZ::eA::eB::eC::eD::eE::eF::eG::eH::eI::eJ::eK::eL::eM::eN::eO::eP::eQ::eR::eS::eT::eU::eV::eW::eX::eY::eZ::fA::fB::fC::fD::fE::fF::fG::fH::fI::fJ::fK::fL::fM::fN::fO::fP::fQ::fR::fS::fT::fU::fV::fW::fX::fY::fZ::gA::gB::gC::gD::gE::gF::gG::gH::gI::gJ::gK::gL::gM::gN::gO::gP::gQ::gR::gS::gT::gU::gV::gW::gX::gY::gZ::hA::hC::hD::hE::hF::hG::hH::hI::hJ::hK::hM::hN::hO::hP::hQ::hR::hS::hT::hU::hV::hW::hZ::iA::iB::iC::iD::iE::iF::iG::iH::iI::iJ::iK::iL::iM::iN::iO::iP::iQ::iR::iS::iT::iU::iV::iW::iX::iY::iZ::jA::jB::jC::jD::jE::jF::jG::jH::jI::jJ::jK::jL::jM::jN::jO::jP::jQ::jR::jS::jT::jU::jV::jW::jX::jY::jZ::kA::kB::kC::kD::kE::kF::kG::kH::kI::kJ::kK::kL::kM::kN::kO::kP::kQ::kR::kS::kT::kU::kV::kW::kX::kY::kZ::lA::lB::lC::lD::lE::lF::lG::lH::lI::lJ::lK::lL::lM::lN::lO::lP::lQ::lR::lS::lT::lU::lV::lW::lX::lY::lZ::mA::mB::mC::mD::mE::mF::mG::mH::mI::mJ::mK::mL::mM::mN::mO::mP::mQ::mR::mS::mT::mU::mV::mW::mX::mY::mZ::nA::nB::nC::nD::nE::nF::nG::nH::nI::nJ::nK::nL::nM::nN::nO::nP::nQ::nR::nS::nT::nU::nV::nW::nX::nY::nZ::oA::oB::oC::oD::oE::oF::oG::oH::oI::oJ::oK::oL::oM::oN::oO::oP::oQ::oR::oS::oT::oU::oV::oW::oX::oY::oZ::pA::pB::pC::pD::pE::pF::pG::pH::pI::pJ::pK::pL::pM::pN::pO::pP::pQ::pR::pS::pT::pU::pV::pW::pX::pY::pZ::qA::qB::qC::qD::qE::qF::qG::qH::qI::qJ::qK::qL::qM::qN::qO::qP::qQ::qR::qS::qT::qU::qV::qW::qX::qY::qZ::rA::rB::rC::rD::rE::rF::rG::rH::rI::rJ::rK::rL::rM::rN::rO::rP::rQ::rR::rS::rT::rU::rV::rX::rY::rZ::sA::sB::sC::sD::sE::sF::sG::sH::sI::sJ::sK::sL::sM::sN::sO::sP::sQ::sR::sS::sT::sU::sV::sW::sX::sY::sZ::tA::tB::tC::tE::tF::tG::tH::tI::tJ::tK::tL::tM::tN::tO::tP::tQ::tR::tS::tT::tU::tV::tW::tX::tY::tZ::uA::uB::uC::uD::uE::uF::uG::uH::uI::uJ::uK::uL::uM::uN::uO::uP::uQ::uR::uS::uT::uU::uV::uW::uX::uY::uZ::vA::vB::vC::vD::vE::vF::vG::vH::vI::vJ::vK::vL::vM::vN::vO::vP::vQ::vR::vS::vT::vU::vV::vW::vX::vY::vZ::wA::wB::wC::wD::wE::wF::wG::wH::wI::wJ::wK::wL::wM::wO::wP::wQ::wR::wS::wT::wU::wV::wW::wX::wY::wZ::xA::xB::xC::xD::xE::xF::xG::xH::xI::xJ::xK::xL::xM::xN::xO::xP::xQ::xR::xS::xT::xU::xV::xW::xX::xY::xZ::yA::yB::yC::yD::yE::yF::yG::yH::yI::yJ::yK::yL::yM::yN::yO::yP::yQ::yR::yS::yT::yU::yV::yW::yX::yY::yZ::zA::zB::zC::zD::zE::zF::zG::zH::zI::zJ::zK::zL::zM::.bool ok::Ca::Cb::Cc::Cd::Ce::Cf::Cg::Ch::Ci::Cj::Ck::Cl::Cm::Cn::Co::Cp::Cq::Cr::Cs::Ct::Cu::Cv::Cw::Cx::Cy::Cz::Da::Db::Dc::Dd::De::Df::Dg::Dh::Di::Dj::Dk::Dl::Dm::Dn::Do::Dp::Dq::Dr::Ds::Dt::Du::Dv::Dw::Dx::Dy::Dz::Ea::Eb::Ec::Ed::Ee::Ef::Eg::Eh::Ei::Ej::Ek::El::Em::En::Eo::Ep::Eq::Er::Es::Et::Eu::Ev::Ew::Ex::zN::zO::zP::zQ::zR::zS::zT::zU::zV::zW::zX::zY::zZ::Aa::Ab::Ac::Ad::Ae::Af::Ag::Ah::Ai::Aj::Ak::Al::Am::An::Ao::Ap::Aq::Ar::As::Au::Av::Aw::Ax::Ay::Az::Ba::Bb::Bc::Bd::Be::Bf::Bg::Bh::Bi::Bj::Bk::Bl::Bm::Bn::Bo::Bp::Bq::Br::Bs::Bt::Bu::Bv::[]), []⟩ w := by
  conv => arg 2; whnf
  have HK := Aside0.mk hk
  clear hk
  cases ok
  · go_wp2
    exact HK.out _ _ _ _ _ _ _ _ _ _ _ _ _ _ _ _ _ _ _ _ _ _ _ _ _ _ _ _ _ _ _ _ _ _ _ _ _ _ _ _ _ _ _ _ _ _ _ _ _ _ _ _ _ _ _ _ _ _ _ _ _ _ _ _ _ _ _ _ _ _ _ _ _ _ _ _ _ _ _ _  w HB0.out
  · have F := Aside0.mk (hf rfl)
    clear hf
    have hl : (sv.size != pl.size) = false := by rw [F.out.len]; exact bne_self_eq_false _
    have hl2 : ((sv.size : Int) != (pl.size : Int)) = false := by rw [F.out.len]; exact bne_self_eq_false _
    go_wp2
    go_loopw [83, 84] (fun aA aB wr => ∃ k : Nat, k ≤ sv.size ∧ aA = .int .i64 (cnt_ (fun j => decide (x j = y j) && decide (y j = 97)) k) ∧ aB = .int .i64 (cnt_ (fun j => decide (x j = y j) && !decide (y j = 97)) k) ∧ Aside0 (wr.heap[w.heap.size]? = some (.stringIter sv k)) ∧ Aside0 (Below w0.heap.size w0 wr)) (fun _ _ wr => sv.size - wr.iterPos w.heap.size)
    case atStart => exact ⟨0, Nat.zero_le _, rfl, rfl, ⟨World.iter_heap w sv 0⟩, ⟨below_alloc HB0.out _⟩⟩
    case round =>
      obtain ⟨k, hkn, rfl, rfl, hL, hB⟩ := hrel
      have hi3 := blk_lt hL.out
      by_cases hp : k < sv.size
      · have h128 : (sv[k]'hp).toNat < 128 := by
          have := List.all_eq_true.1 F.out.asc (sv[k]'hp) (by rw [idx_data]; exact List.getElem_mem _)
          simpa using this
        have hnx0 := fun ty => Lib.run_next_ascii_at (P := Tryz.prog) wr w.heap.size sv k ty hL.out hp h128
        have hit0 := Lib.iterAt_heap wr w.heap.size sv k (k + 1) hL.out
        have hb0 := Lib.below_iterAt hB.out (k := w.heap.size) HB0.out.size sv (k + 1)
        obtain ⟨W1, hW1⟩ : ∃ W1, wr.iterAt w.heap.size sv (k + 1) = W1 := ⟨_, rfl⟩
        rw [hW1] at hit0 hb0
        have hnx : ∀ ty, (Instr.next (.pointer (some ⟨w.heap.size, 0, none⟩)) true ty).run Tryz.prog wr = .ok (.tuple #[.bool true, .int .i64 k, .int .i32 (sv[k]'hp).toNat]) W1 := fun ty => by rw [← hW1]; exact hnx0 ty
        clear hnx0 hW1
        have HI := Aside0.mk hit0
        have HB := Aside0.mk hb0
        have lt2 : sv.size - W1.iterPos w.heap.size < sv.size - wr.iterPos w.heap.size := by
          rw [it_pos hL.out, it_pos HI.out]
          omega
        have LT2 := Aside0.mk lt2
        clear hit0 hb0 hB lt2 hL
        have hps : k < pl.size := by have := F.out.len; omega
        have hcase : (k = 0 ∧ ∀ h, ((sv[0]'h).toNat : Int) = 97) ∨ (∃ j, k = j + 1 ∧ Int.tmod (k : Int) t ≠ 0 ∧ ∃ X : Int, (∀ h, ((sv[k]'h).toNat : Int) = X) ∧ ∀ h, ((sv[j]'h).toNat : Int) = X) ∨ (∃ j, k = j + 1 ∧ Int.tmod (k : Int) t = 0 ∧ ∃ X Y : Int, X ≠ Y ∧ (∀ h, ((sv[k]'h).toNat : Int) = X) ∧ ∀ h, ((sv[j]'h).toNat : Int) = Y) := by
          rcases Nat.eq_zero_or_pos k with rfl | hpos
          · exact .inl ⟨rfl, fun h => by rw [F.out.hx 0 h]; exact F.out.x0 (by omega)⟩
          · obtain ⟨j, rfl⟩ : ∃ j, k = j + 1 := ⟨k - 1, by omega⟩
            by_cases hr : Int.tmod ((j + 1 : Nat) : Int) t = 0
            · exact .inr (.inr ⟨j, rfl, hr, x (j + 1), x j, F.out.turns j hps hr, fun h => F.out.hx _ h, fun h => F.out.hx _ h⟩)
            · exact .inr (.inl ⟨j, rfl, hr, x (j + 1), fun h => F.out.hx _ h, fun h => by rw [F.out.hx j h, F.out.same j hps hr]⟩)
        have HC := Aside0.mk hcase
        clear hcase
        have hsm : sv.size ≤ 1000 := by have := F.out.len; have := F.out.small; omega
        go_upto_region 75 with fail
        refine r75 sv k t _ _ _ _ _ _ _ _ _ _ _ _ _ _ _ _ _ _ _ _ _ _ _ _ _ _ _ _ _ _ _ _ _ _ _ _ _ _ _ _ _ _ _ _ _ _ _ _ _ _ _ _ _ _ _ _ _ _ _ _ _ _ _ _ _ _ _ _ _ _ _ _ _ _ _ _ _ _ _ _ _ _ _ _ _ _ _ _ _ _ _ _ _ _ _ _ _ _ _ _ _ _ _ _ _ _ _ _ _ _ _ _ _ _ _ _ _ _ _ _ _ _ _ _ _ _ _ _ _ _ _ _ _ _ _ _ _ _ _ _ _ _ _ _ _ _ _ _ _ _ _ _ _ _ _ _ _ _ _ _ _ _ _ _ _ _ _ _ _ _ _ _ _ _ _ _ _ _ _ _ _ _ _ _ _ _ _ _ _ _ _ _ _ _ _ _ _ _ _ _ _ _ _ _ _ _ _ _ _ _ _ _ _ _ _ _ _ _ _ _ _ _ _ _ _ _ _ _ _ _ _ _ _ _ _ _ _ _ _ _ _ _ _ _ _ _ _ _ _ _ _ _ _ _ _ _ _ _ _ _ _ _ _ _ _ _ _ _ _ _ _ _ _ _ _ _ _ _ _ _ _ _ _ _ _ _ _ _ _ _ _ _ _ _ _ _ _ _ _ _ _ _ _ _ _ _ _ _ _ _ _ _ _ _ _ _ _ _ _ _ _ _ _ _ _ _ _ _ _ _ _ _ _ _ _ _ _ _ _ _ _ _ _ _ _ _ _ _ _ _ _ _ _ _ _ _ _ _ _ _ _ _ _ _ _ _ _ _ _ _ _ _ _ _ _ _ _ _ _ _ _ _ _ _ _ _ _ _ _ _ _ _ _ _ _ _ _ _ _ _ _ _ _ _ _ _ _ _ _ _ _ _ _ _ _ _ _ _ _ _ _ _ _ _ _ _ _ _ _ _ _ _ _ _ _ _ _ _ _ _ _ _ _ _ _ _ _ _ _ _ _ _ _ _ _ _ _ _ _ _ _ _ _ _ _ _ _ _ _ _ _ _ _ _ _ _ _ _ _ _ _ _ _ _ _ _ _ _ _ _ _ _ _ _ _ _ _ _ _ _ _ _ _ _ _ _ _ _ _ _ _ _ _ _ _ _ _ _ _ _ _ _ _ _ _ _ _ _ _ _ _ _ _ _ _ _ _ _ _ _ _ _ _ _ _ _ _ _ _ _ _ _ _ _ _ _ _ _ _ _ _ _ _ _ _ _ _ _ _ _ _ _ _ _ _ _ _ _ _ _ _ _ _ _ _ _ _ _ _ _ _ _ _ _ _ _ _ _ _ _ _ _ _ _ _ _ _ _ _ _ _ _ _ _ _ _ _ _ _ _ _ _ _ _ _ _ _ _ _ _ _ _ _ _ _ _ _ _ _ _ _ _ _ _ _ _ _ _ _ _ _ _ _ _ _ _ _ _ _ _ _ _ _ _ _ _ _ _ _ _ _ _ _ _ _ _ _ _ _ _ _ _ _ _ _ _ _ _ _ _ _ _ _ _ _ _ _ _ _ _ _ _ _ _ _ _ _ _ _ _ _ _ _ _ _ _ _ _ _ _ _ _ _ _ _ _ _ _ _ _ _ _ _ _ _ _ _ _ _ _ _ _ _ _ _ _ _ _ _ _ _ _ _ _ _ _ _ _ _ _ _ _ _ _ _ _ _ _ _ _ _ _ _ _ _ _ _ _ _ _ _ _ _ _ _ _ _ _ _ _ _ _ _ _ _ _ _  _ _ hp hsm F.out.turn HC.out ?_
        rintro z674 z675 z676 z677 z678 z679 z680 z681 z682 z683 z684 z685 z686 z687 z688 z689 z690 z691 z692 z693 z694 z695 z696 z697 z698 z699 z700 z701 z702 z703 z704 z705 z706 z707 z708 z709 z710 z711 z712 z713 z714 z715 w' ⟨m, rfl⟩
        have HB2 := Aside0.mk (pw_below_drewN HB.out m)
        have HI2 : Aside0 ((W1.drewN m).heap[w.heap.size]? = some (.stringIter sv (k + 1))) := ⟨HI.out⟩
        have LT3 : Aside0 (sv.size - (W1.drewN m).iterPos w.heap.size < sv.size - wr.iterPos w.heap.size) := ⟨LT2.out⟩
        clear HB HI LT2
        generalize W1.drewN m = W2 at *
        have p_ : (0 : Int) ≤ (k : Int) := by omega
        have q_ : (k : Int) < (sv.size : Int) := by omega
        have q2_ : (k : Int) < (pl.size : Int) := by omega
        have gx : ∀ h, ((sv[k]'h).toNat : Int) = x k := fun h => F.out.hx k h
        have gy : ∀ h, ((pl[k]'h).toNat : Int) = y k := fun h => F.out.hy k h
        have c1 := cnt_bd (fun j => decide (x j = y j) && decide (y j = 97)) k
        have c2 := cnt_bd (fun j => decide (x j = y j) && !decide (y j = 97)) k
        have s1 : cnt_ (fun j => decide (x j = y j) && decide (y j = 97)) (k + 1) = cnt_ (fun j => decide (x j = y j) && decide (y j = 97)) k + (if (decide (x k = y k) && decide (y k = 97)) = true then 1 else 0) := rfl
        have s2 : cnt_ (fun j => decide (x j = y j) && !decide (y j = 97)) (k + 1) = cnt_ (fun j => decide (x j = y j) && !decide (y j = 97)) k + (if (decide (x k = y k) && !decide (y k = 97)) = true then 1 else 0) := rfl
        obtain ⟨ca, hca⟩ : ∃ z, cnt_ (fun j => decide (x j = y j) && decide (y j = 97)) k = z := ⟨_, rfl⟩
        obtain ⟨cb, hcb⟩ : ∃ z, cnt_ (fun j => decide (x j = y j) && !decide (y j = 97)) k = z := ⟨_, rfl⟩
        rw [hca] at s1 c1
        rw [hcb] at s2 c2
        rw [hca, hcb]
        have hm0 : 0 ≤ ca := c1.1
        have hm1 : ca ≤ 1000 := by have := c1.2; omega
        have hn0 : 0 ≤ cb := c2.1
        have hn1 : cb ≤ 1000 := by have := c2.2; omega
        clear hca hcb c1 c2
        obtain ⟨X, hX⟩ : ∃ X, x k = X := ⟨_, rfl⟩
        obtain ⟨Y, hY⟩ : ∃ Y, y k = Y := ⟨_, rfl⟩
        rw [hX, hY] at s1 s2
        rw [hX] at gx
        rw [hY] at gy
        clear hX hY
        by_cases e1 : X = Y
        · have b1 : (X == Y) = true := beq_iff_eq.mpr e1
          by_cases e2 : Y = 97
          · have b2 : (Y == 97) = true := beq_iff_eq.mpr e2
            have S1 := Aside0.mk (show cnt_ (fun j => decide (x j = y j) && decide (y j = 97)) (k + 1) = ca + 1 by rw [s1]; simp [e1, e2])
            have S2 := Aside0.mk (show cnt_ (fun j => decide (x j = y j) && !decide (y j = 97)) (k + 1) = cb by rw [s2]; simp [e1, e2])
            clear s1 s2 e1 e2
            go_wp2
            repeat (go_quiet (fail); try go_wp2)
            go_roundw
            case rel => exact ⟨k + 1, hp, by rw [S1.out], by rw [S2.out], HI2, ⟨by first | exact pw_below_drewN HB2.out _ | exact HB2.out⟩⟩
            case measure => exact LT3.out
          · have b2 : (Y == 97) = false := beq_eq_false_iff_ne.mpr e2
            have S1 := Aside0.mk (show cnt_ (fun j => decide (x j = y j) && decide (y j = 97)) (k + 1) = ca by rw [s1]; simp [e1, e2])
            have S2 := Aside0.mk (show cnt_ (fun j => decide (x j = y j) && !decide (y j = 97)) (k + 1) = cb + 1 by rw [s2]; simp [e1, e2])
            clear s1 s2 e1 e2
            go_wp2
            repeat (go_quiet (fail); try go_wp2)
            go_roundw
            case rel => exact ⟨k + 1, hp, by rw [S1.out], by rw [S2.out], HI2, ⟨by first | exact pw_below_drewN HB2.out _ | exact HB2.out⟩⟩
            case measure => exact LT3.out
        · have b1 : (X == Y) = false := beq_eq_false_iff_ne.mpr e1
          have S1 := Aside0.mk (show cnt_ (fun j => decide (x j = y j) && decide (y j = 97)) (k + 1) = ca by rw [s1]; simp [e1])
          have S2 := Aside0.mk (show cnt_ (fun j => decide (x j = y j) && !decide (y j = 97)) (k + 1) = cb by rw [s2]; simp [e1])
          clear s1 s2 e1
          go_wp2
          repeat (go_quiet (fail); try go_wp2)
          go_roundw
          case rel => exact ⟨k + 1, hp, by rw [S1.out], by rw [S2.out], HI2, ⟨by first | exact pw_below_drewN HB2.out _ | exact HB2.out⟩⟩
          case measure => exact LT3.out
      · have hnx : ∀ ty, (Instr.next (.pointer (some ⟨w.heap.size, 0, none⟩)) true ty).run Tryz.prog wr = .ok (.tuple #[.bool false]) wr := fun ty => Lib.run_next_end_at wr w.heap.size sv k ty hL.out hp
        obtain rfl : k = sv.size := by omega
        have e1 := F.out.hc
        have e2 := F.out.hd
        rw [← F.out.len] at e1 e2
        rw [e1, e2]
        clear e1 e2
        have b1 : (c != c) = false := bne_self_eq_false _
        have b2 : (d != d) = false := bne_self_eq_false _
        go_wp2
        exact HK.out _ _ _ _ _ _ _ _ _ _ _ _ _ _ _ _ _ _ _ _ _ _ _ _ _ _ _ _ _ _ _ _ _ _ _ _ _ _ _ _ _ _ _ _ _ _ _ _ _ _ _ _ _ _ _ _ _ _ _ _ _ _ _ _ _ _ _ _ _ _ _ _ _ _ _ _ _ _ _ _  wr hB.out
end Go.Proofs.YtiknaldhjbdnbaaGreatDoor.QFnRacesWon
