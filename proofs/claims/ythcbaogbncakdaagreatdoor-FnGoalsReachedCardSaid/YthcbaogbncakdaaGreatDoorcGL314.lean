/- laws.FnGoalsReached's block of goals that reach the score, walked: nothing in it comes out false. Conditions: what the goals hold. -/
import Derived.Test.YthcbaogbncakdaaGreatDoorcGL0
namespace Go.Proofs.YthcbaogbncakdaaGreatDoor.QFnGoalsReached
open Go.RowKit Go.Proofs.YthcbaogbncakdaaGreatDoorW.PrintWords Go.Proofs.YthcbaogbncakdaaGreatDoorW.PrintLast Go.Proofs.YthcbaogbncakdaaGreatDoorW.PrintMore
set_option linter.unusedVariables false
set_option linter.unusedSimpArgs false
set_option maxHeartbeats 8000000 in
set_option maxRecDepth 1000000 in
theorem b314 (l first : List Int) (s few : Int) (ok : Bool) (X Y : Nat → Int) (Ak Af : Option Addr) (ck cf : Nat) (w0 : World) (aF aA aB aG rK aH aI aJ aK aL aM aN aO aP aQ aR aS aT aU aV aW aX aY aZ bA bB bC bD bE bF bG rL rM rN rO bH bI bJ bK bL bM bN bO bP bQ bR bS bT bU bV bW bX bY bZ cA cB cC cD cE cF cG cH cI cJ cK cL cM cN cO cP cQ cR cS cT cU cV cW cX cY cZ dA dB dC dD dE dF dG dH dI dJ dK dL dM dN dO dP dQ dR dS dT dU dV dW dX dY dZ eA eB eC eD eE eF eG eH eI eJ eK eL eM eN eO eP eQ eR eS eT eU eV eW eX eY eZ fA fB fC fD fE fF fG fH fI fJ fK fL fM fN fO fP fQ fR fS fT fU fV fW fX fY fZ gA gB gC gD gE gF gG gH gI gJ gK gL gM gN gO gP gQ gR gS gT gU gV gW gX gY gZ hA hB hC hD hE hF hG hH hI hK hL hM hN hQ hS hT hU hV hW hX hY hZ iA iB iC iD iE iF iG iH iI iJ iK iL iM iN iO iP iQ iR iS iT iU iV iW iX iY iZ jA jB jC jD jE jF jG jH jI jJ jK jL jM jN jO jP jQ jR jS jT jU jV jW jX jY jZ kA kB kC kD kE kF kG kH kI kJ kK kL kM kN kO kP kQ kR kS kT kU kV kW kX kY kZ lA lB lC lD lE lF lG lH lI lJ lK lL lM lN lO lP lQ lR lS lT lU lV lW lX lY rP rQ rR rS rT rU rV rX rY rZ sA sB sC sD sE sF sG sH sI sJ sK sL sM sN sO sP sQ sR sS sT sU sV sW sX sY sZ tA tB tC tE tF tG tH tI tJ tK tL tM tN tO tP tQ tR tS tT lZ mA mB mC mD mE mF mG mH mI mJ mK mL mM mN mO mP mQ mR mS mT mU mV mW mX mY mZ nA nB nC nD nE nF nG nH nI nJ nK nL nM nN nO nP nQ nR nS nT nU nV nW nX nY nZ oA oB oC oD oE oF oG oH oI oJ oK oL oM oN oO oP oQ oR oS oT oU oV oW oX oY oZ pA pB pC pD pE pF pG pH pI pJ pK pL pM pN pO pP pQ pR pS pT pU pV pW pX pY pZ qA qB qC qD qE qF qG qH qI qJ qK qL qM qN qO qP qQ qR qS qT qU qV qW qX qY qZ rA rB rC rD rE rF rG rH rI rJ : Value) (w : World) (Q : Exit → Act → World → Prop)
    (HB0 : Below w0.heap.size w0 w) (hO : ok = true → OF l s first few X Y) (h5 : Kd.C (Kd.int .i64) w Ak l.length l) (h7 : Kd.C (Kd.int .i64) w Af first.length first)
    (hk : ∀ (tU aD aE tV tW tX tY tZ uA uB uC uD aC uE uF uG uH uI uJ uK uL uM uN uO uP uQ uR uS uT uU uV uW uX uY uZ vA vB vC vD vE vF vG vH vI vJ vK vL vM vN vO vP vQ vR vS vT vU vV vW vX vY : Value) (w' : World), Below w0.heap.size w0 w' → Q .normal ⟨List.toArray (aF::aA::aB::aG::tU::.slice Ak l.length ck::.int .i64 s::.slice Af first.length cf::.bool ok::aH::aI::.int .i64 few::aJ::aK::aL::aM::aN::aO::aP::aQ::aR::aS::aT::aU::aV::aW::aX::aY::aZ::bA::bB::bC::bD::bE::bF::bG::aD::aE::tV::tW::bH::bI::bJ::bK::bL::bM::bN::bO::bP::bQ::bR::bS::bT::bU::bV::bW::bX::bY::bZ::cA::cB::cC::cD::cE::cF::cG::cH::cI::cJ::cK::cL::cM::cN::cO::cP::cQ::cR::cS::cT::cU::cV::cW::cX::cY::cZ::dA::dB::dC::dD::dE::dF::dG::dH::dI::dJ::dK::dL::dM::dN::dO::dP::dQ::dR::dS::dT::dU::dV::dW::dX::dY::dZ::eA::eB::eC::eD::eE::eF::eG::eH::eI::eJ::eK::eL::eM::eN::eO::eP::eQ::eR::eS::eT::eU::eV::eW::eX::eY::eZ::fA::fB::fC::fD::fE::fF::fG::fH::fI::fJ::fK::fL::fM::fN::fO::fP::fQ::fR::fS::fT::fU::fV::fW::fX::fY::fZ::gA::gB::gC::gD::gE::gF::gG::gH::gI::gJ::gK::gL::gM::gN::gO::gP::gQ::gR::gS::gT::gU::gV::gW::gX::gY::gZ::hA::hB::hC::hD::hE::hF::hG::hH::hI::hK::hL::hM::hN::hQ::hS::hT::hU::hV::hW::hX::hY::hZ::iA::iB::iC::iD::iE::iF::iG::iH::iI::iJ::iK::iL::iM::iN::iO::iP::iQ::iR::iS::iT::iU::iV::iW::iX::iY::iZ::jA::jB::jC::jD::jE::jF::jG::jH::jI::jJ::jK::jL::jM::jN::jO::jP::jQ::jR::jS::jT::jU::jV::jW::jX::jY::jZ::kA::kB::kC::kD::kE::kF::kG::kH::kI::kJ::kK::kL::kM::kN::kO::kP::kQ::kR::kS::kT::kU::kV::kW::kX::kY::kZ::lA::lB::lC::lD::lE::lF::lG::lH::lI::lJ::lK::lL::lM::lN::lO::lP::lQ::lR::lS::lT::lU::lV::lW::lX::lY::.bool ok::tX::tY::tZ::uA::uB::uC::uD::aC::uE::uF::uG::uH::uI::uJ::uK::uL::uM::uN::uO::uP::uQ::uR::uS::uT::uU::uV::uW::uX::uY::uZ::vA::vB::vC::vD::vE::vF::vG::vH::vI::vJ::vK::vL::vM::vN::vO::vP::vQ::vR::vS::vT::vU::vV::vW::vX::vY::lZ::mA::mB::mC::mD::mE::mF::mG::mH::mI::mJ::mK::mL::mM::mN::mO::mP::mQ::mR::mS::mT::mU::mV::mW::mX::mY::mZ::nA::nB::nC::nD::nE::nF::nG::nH::nI::nJ::nK::nL::nM::nN::nO::nP::nQ::nR::nS::nT::nU::nV::nW::nX::nY::nZ::oA::oB::oC::oD::oE::oF::oG::oH::oI::oJ::oK::oL::oM::oN::oO::oP::oQ::oR::oS::oT::oU::oV::oW::oX::oY::oZ::pA::pB::pC::pD::pE::pF::pG::pH::pI::pJ::pK::pL::pM::pN::pO::pP::pQ::pR::pS::pT::pU::pV::pW::pX::pY::pZ::qA::qB::qC::qD::qE::qF::qG::qH::qI::qJ::qK::qL::qM::qN::qO::qP::qQ::qR::qS::qT::qU::qV::qW::qX::qY::qZ::rA::rB::rC::rD::rE::rF::rG::rH::rI::rJ::[]), []⟩ w') : (piece [1, 1, 1, 1, 1, 1, 1, 1, 1, 1, 1, 1, 1, 1, 1, 1, 1, 1, 1, 0, 1] (Tryz.f3.body.getD .skip)).wp Tryz.prog Q ⟨List.toArray (aF::aA::aB::aG::rK::.slice Ak l.length ck::.int .i64 s::.slice Af first.length cf::.bool ok::aH::aI::.int .i64 few::aJ::aK::aL::aM::aN::aO::aP::aQ::aR::aS::aT::aU::aV::aW::aX::aY::aZ::bA::bB::bC::bD::bE::bF::bG::rL::rM::rN::rO::bH::bI::bJ::bK::bL::bM::bN::bO::bP::bQ::bR::bS::bT::bU::bV::bW::bX::bY::bZ::cA::cB::cC::cD::cE::cF::cG::cH::cI::cJ::cK::cL::cM::cN::cO::cP::cQ::cR::cS::cT::cU::cV::cW::cX::cY::cZ::dA::dB::dC::dD::dE::dF::dG::dH::dI::dJ::dK::dL::dM::dN::dO::dP::dQ::dR::dS::dT::dU::dV::dW::dX::dY::dZ::eA::eB::eC::eD::eE::eF::eG::eH::eI::eJ::eK::eL::eM::eN::eO::eP::eQ::eR::eS::eT::eU::eV::eW::eX::eY::eZ::fA::fB::fC::fD::fE::fF::fG::fH::fI::fJ::fK::fL::fM::fN::fO::fP::fQ::fR::fS::fT::fU::fV::fW::fX::fY::fZ::gA::gB::gC::gD::gE::gF::gG::gH::gI::gJ::gK::gL::gM::gN::gO::gP::gQ::gR::gS::gT::gU::gV::gW::gX::gY::gZ::hA::hB::hC::hD::hE::hF::hG::hH::hI::hK::hL::hM::hN::hQ::hS::hT::hU::hV::hW::hX::hY::hZ::iA::iB::iC::iD::iE::iF::iG::iH::iI::iJ::iK::iL::iM::iN::iO::iP::iQ::iR::iS::iT::iU::iV::iW::iX::iY::iZ::jA::jB::jC::jD::jE::jF::jG::jH::jI::jJ::jK::jL::jM::jN::jO::jP::jQ::jR::jS::jT::jU::jV::jW::jX::jY::jZ::kA::kB::kC::kD::kE::kF::kG::kH::kI::kJ::kK::kL::kM::kN::kO::kP::kQ::kR::kS::kT::kU::kV::kW::kX::kY::kZ::lA::lB::lC::lD::lE::lF::lG::lH::lI::lJ::lK::lL::lM::lN::lO::lP::lQ::lR::lS::lT::lU::lV::lW::lX::lY::.bool ok::rP::rQ::rR::rS::rT::rU::rV::rX::rY::rZ::sA::sB::sC::sD::sE::sF::sG::sH::sI::sJ::sK::sL::sM::sN::sO::sP::sQ::sR::sS::sT::sU::sV::sW::sX::sY::sZ::tA::tB::tC::tE::tF::tG::tH::tI::tJ::tK::tL::tM::tN::tO::tP::tQ::tR::tS::tT::lZ::mA::mB::mC::mD::mE::mF::mG::mH::mI::mJ::mK::mL::mM::mN::mO::mP::mQ::mR::mS::mT::mU::mV::mW::mX::mY::mZ::nA::nB::nC::nD::nE::nF::nG::nH::nI::nJ::nK::nL::nM::nN::nO::nP::nQ::nR::nS::nT::nU::nV::nW::nX::nY::nZ::oA::oB::oC::oD::oE::oF::oG::oH::oI::oJ::oK::oL::oM::oN::oO::oP::oQ::oR::oS::oT::oU::oV::oW::oX::oY::oZ::pA::pB::pC::pD::pE::pF::pG::pH::pI::pJ::pK::pL::pM::pN::pO::pP::pQ::pR::pS::pT::pU::pV::pW::pX::pY::pZ::qA::qB::qC::qD::qE::qF::qG::qH::qI::qJ::qK::qL::qM::qN::qO::qP::qQ::qR::qS::qT::qU::qV::qW::qX::qY::qZ::rA::rB::rC::rD::rE::rF::rG::rH::rI::rJ::[]), []⟩ w := by
  conv => arg 2; whnf
  have HK := Aside0.mk hk
  clear hk
  have HB := Aside0.mk HB0
  clear HB0
  cases ok
  · go_wp2
    exact HK.out _ _ _ _ _ _ _ _ _ _ _ _ _ _ _ _ _ _ _ _ _ _ _ _ _ _ _ _ _ _ _ _ _ _ _ _ _ _ _ _ _ _ _ _ _ _ _ _ _ _ _ _ _ _ _ _ _ _ _ _  w HB.out
  · have F := Aside0.mk (hO rfl)
    clear hO
    have h1 := F.out.len
    have hsame := F.out.same
    have H5 := Aside0.mk h5
    have H7 := Aside0.mk h7
    have HW := Aside0.mk (Below.refl w.heap.size w)
    clear h5 h7
    have e0 : (first.length == l.length) = true := by rw [hsame]; exact beq_self_eq_true _
    have e1 : ((first.length : Int) == (l.length : Int)) = true := by rw [hsame]; exact beq_self_eq_true _
    have e2 : (first.length : Int) = (l.length : Int) := by rw [hsame]
    go_wp2
    go_loopw [36, 37, 322] (fun aD aE aC wr => ∃ i : Nat, i ≤ l.length ∧ aC = .int .i64 i ∧ aD = .int .i64 (X i) ∧ aE = .int .i64 (Y i) ∧ Aside0 (Below w0.heap.size w0 wr) ∧ Aside0 (Below w.heap.size w wr)) (fun _ _ aC _ => l.length - (intOf aC).toNat)
    case atStart => exact ⟨0, Nat.zero_le _, rfl, by rw [F.out.x0], by rw [F.out.y0], HB, HW⟩
    case round =>
      clear HB HW
      obtain ⟨i, hi, rfl, rfl, rfl, HB, HW⟩ := hrel
      by_cases hp : i < l.length
      · obtain ⟨f1, f2, f3, f4, f5, f6⟩ := F.out.each i hp
        have x1 := F.out.xb i hi
        have y1 := F.out.yb i hi
        have x2 := F.out.xb (i + 1) hp
        have y2 := F.out.yb (i + 1) hp
        have p_ : (0 : Int) ≤ (i : Int) := by omega
        have q_ : (i : Int) < (l.length : Int) := by omega
        have q2_ : (i : Int) < (first.length : Int) := by omega
        obtain ⟨ad, rfl, hx⟩ := Kd.at_int (Kd.C_below H5.out HW.out) (i : Int) p_ q_
        obtain ⟨af, rfl, hy⟩ := Kd.at_int (Kd.C_below H7.out HW.out) (i : Int) p_ q2_
        rw [Int.toNat_natCast] at hx hy
        obtain ⟨fv, hfv⟩ : ∃ z, z = rd first (i : Int) := ⟨_, rfl⟩
        obtain ⟨kv, hkv⟩ : ∃ z, z = rd l (i : Int) := ⟨_, rfl⟩
        rw [← hfv] at hy f1 f2 f3 f4 f5 f6
        rw [← hkv] at hx f3 f4 f5
        obtain ⟨P, hP⟩ : ∃ p, p = fv * kv := ⟨_, rfl⟩
        rw [← hP] at f3 f4 f5
        obtain ⟨xi, hxi⟩ : ∃ z, X i = z := ⟨_, rfl⟩
        obtain ⟨yi, hyi⟩ : ∃ z, Y i = z := ⟨_, rfl⟩
        rw [hxi] at f5 x1 ⊢
        rw [hyi] at f6 y1 ⊢
        have w1 : wrap64 (fv * kv) = P := by rw [← hP]; unfold wrap64; omega
        have w2 : IntKind.i64.wrap (fv * kv) = P := by rw [i64_w]; exact w1
        have w3 : wrap64 (xi + P) = xi + P := by unfold wrap64; omega
        have w4 : IntKind.i64.wrap (xi + P) = xi + P := by rw [i64_w]; exact w3
        have w5 : wrap64 (yi + fv) = yi + fv := by unfold wrap64; omega
        have w6 : IntKind.i64.wrap (yi + fv) = yi + fv := by rw [i64_w]; exact w5
        have w7 : wrap64 ((i : Int) + 1) = (i : Int) + 1 := by unfold wrap64; omega
        have w8 : IntKind.i64.wrap ((i : Int) + 1) = (i : Int) + 1 := by rw [i64_w]; exact w7
        have c1 : decide (fv < 0) = false := decide_eq_false (by omega)
        have hp2 : i < first.length := by rw [hsame]; exact hp
        have d0 : decide (i < first.length) = true := decide_eq_true hp2
        have d1 := eq_true p_
        have d2 := eq_true q_
        have d3 := eq_true q2_
        have d4 : (i < l.length) = True := eq_true hp
        have d5 : (i < first.length) = True := eq_true hp2
        have d6 : decide ((i : Int) < (first.length : Int)) = true := decide_eq_true q2_
        have F5 := Aside0.mk f5
        have F6 := Aside0.mk f6
        have HI := Aside0.mk hp
        clear f1 f2 f3 f4 f5 f6 x1 x2 y1 y2 hP hfv hkv hxi hyi p_ q_ q2_ hp2 hp hi
        go_wp2
        go_roundw
        case rel => exact ⟨i + 1, HI.out, by go_num, by rw [F5.out], by rw [F6.out], ⟨by first | exact HB.out | exact pw_below_drewN HB.out _⟩, ⟨by first | exact HW.out | exact pw_below_drewN HW.out _⟩⟩
        all_goals (have := HI.out; first | omega | (simp [intOf]; omega))
      · obtain rfl : i = l.length := by omega
        rw [F.out.xe, F.out.ye]
        have d6 : decide ((l.length : Int) < (first.length : Int)) = false := decide_eq_false (by omega)
        have d7 : decide (l.length < first.length) = false := decide_eq_false (by omega)
        have d8 : (l.length < first.length) = False := eq_false (by omega)
        have d9 : ((l.length : Int) < (first.length : Int)) = False := eq_false (by omega)
        obtain ⟨l1, l2⟩ := F.out.lo
        obtain ⟨aA, aB⟩ := F.out.hi
        have hsb := F.out.sb
        have p_ : (0 : Int) ≤ (l.length : Int) - 1 := by omega
        have q_ : (l.length : Int) - 1 < (l.length : Int) := by omega
        have z_ : (0 : Int) < (l.length : Int) := by omega
        have HC := Kd.C_below H5.out HW.out
        have w0_ : wrap64 ((l.length : Int) - 1) = (l.length : Int) - 1 := by unfold wrap64; omega
        obtain ⟨J, hJ⟩ : ∃ j, j = (l.length : Int) - 1 := ⟨_, rfl⟩
        rw [← hJ] at p_ q_ aA aB
        have w5 : wrap64 ((l.length : Int) - 1) = J := by rw [hJ]; exact w0_
        obtain ⟨ad, rfl, hx⟩ := Kd.at_int HC J p_ q_
        obtain ⟨ad2, ead, hy⟩ := Kd.at_int HC 0 (Int.le_refl _) z_
        obtain rfl : ad = ad2 := Option.some.inj ead
        obtain ⟨k0, hk0⟩ : ∃ z, z = rd l 0 := ⟨_, rfl⟩
        obtain ⟨k1, hk1⟩ : ∃ z, z = rd l J := ⟨_, rfl⟩
        rw [← hk0] at hy l1 l2
        rw [← hk1] at hx aA aB
        rw [Int.toNat_zero] at hy
        have hy' : wr.cell? (ad.add (0 : Int).toNat) = some (.int .i64 k0) := hy
        have hy2 : wr.cell? ad = some (.int .i64 k0) := by rw [show ad.add 0 = ad from rfl] at hy; exact hy
        obtain ⟨P, hP⟩ : ∃ p, p = few * k0 := ⟨_, rfl⟩
        obtain ⟨R, hR⟩ : ∃ p, p = few * k1 := ⟨_, rfl⟩
        rw [← hP] at l1 l2
        rw [← hR] at aA aB
        have w1 : wrap64 (few * k0) = P := by rw [← hP]; unfold wrap64; omega
        have w2 : IntKind.i64.wrap (few * k0) = P := by rw [i64_w]; exact w1
        have w3 : wrap64 (few * k1) = R := by rw [← hR]; unfold wrap64; omega
        have w4 : IntKind.i64.wrap (few * k1) = R := by rw [i64_w]; exact w3
        have w6 : IntKind.i64.wrap ((l.length : Int) - 1) = J := by rw [i64_w]; exact w5
        have c1 : decide (s < P) = false := decide_eq_false (by omega)
        have c2 : decide (R < s) = false := decide_eq_false (by omega)
        have c3 : (s == s) = true := beq_self_eq_true _
        have c4 : (few == few) = true := beq_self_eq_true _
        have d1 := eq_true p_
        have d2 := eq_true q_
        have d3 := eq_true z_
        have d4 : (0 < l.length) = True := eq_true (by omega)
        have d5 : (J.toNat < l.length) = True := eq_true (by omega)
        clear l1 l2 aA aB hP hR hk0 hk1 hsb p_ q_ z_ HC hJ w0_ h1 hsame
        go_wp2
        exact HK.out _ _ _ _ _ _ _ _ _ _ _ _ _ _ _ _ _ _ _ _ _ _ _ _ _ _ _ _ _ _ _ _ _ _ _ _ _ _ _ _ _ _ _ _ _ _ _ _ _ _ _ _ _ _ _ _ _ _ _ _  _ (by first | exact HB.out | exact pw_below_drewN HB.out _ | exact pw_below_drewN (pw_below_drewN HB.out _) _)
end Go.Proofs.YthcbaogbncakdaaGreatDoor.QFnGoalsReached
