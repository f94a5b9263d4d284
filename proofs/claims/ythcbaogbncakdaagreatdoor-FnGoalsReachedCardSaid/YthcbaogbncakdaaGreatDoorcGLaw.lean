/- laws.FnGoalsReached, walked along the answers that are known: it returns true. Conditions: what each function answers, named. -/
import Derived.Test.YthcbaogbncakdaaGreatDoorcGL18
import Derived.Test.YthcbaogbncakdaaGreatDoorcGL258
import Derived.Test.YthcbaogbncakdaaGreatDoorcGL314
import Derived.Test.YthcbaogbncakdaaGreatDoorcGL46
import Derived.Test.YthcbaogbncakdaaGreatDoorcGL453
import Derived.Test.YthcbaogbncakdaaGreatDoorcGL485
import Derived.Test.YthcbaogbncakdaaGreatDoorcGL499
namespace Go.Proofs.YthcbaogbncakdaaGreatDoor.QFnGoalsReached
open Go.RowKit Go.Proofs.YthcbaogbncakdaaGreatDoorW.PrintWords Go.Proofs.YthcbaogbncakdaaGreatDoorW.PrintLast Go.Proofs.YthcbaogbncakdaaGreatDoorW.PrintMore
set_option linter.unusedVariables false
set_option linter.unusedSimpArgs false
structure A2 (l1 u : List Int) (gr : Int) (th fi : Bool) (tx st : ByteArray) (read : List Int) (se : Bool) : Prop where
  dU : ∃ k, spec_DrawGreatestNotReached.f k l1 = some u
  dP : ∃ k, spec_DrawParseKinds.f k l1 = some st
  a24 : ∃ k, impl_GreatestNotReached.f k u = some (gr, th)
  a25 : ∃ k, spec_GreatestNotReached.f k u = some (gr, th)
  a26 : ∃ k, impl_KindsText.f k u = some (tx, fi)
  a27 : ∃ k, spec_KindsText.f k u = some (tx, fi)
  a29 : ∃ k, impl_ParseKinds.f k st = some (read, se)
  a30 : ∃ k, spec_ParseKinds.f k st = some (read, se)
  a31 : ∃ k, impl_AreKinds.f k u = some fi
  a32 : ∃ k, spec_AreKinds.f k u = some fi
  sR : ∃ k, laws_bSame.f k read read = some true
  rel : th = true → fi = true
  gf : th = true → GF u gr
  ag : ∃ kP kS, fi = true → impl_ParseKinds.f kP tx = some (u, true) ∧ laws_bSame.f kS u u = some true
  bk : ∃ k, se = true → impl_KindsText.f k read = some (st, true)
set_option maxHeartbeats 16000000 in
set_option maxRecDepth 1000000 in
theorem law.calls (A0 : Option Addr) (c0 : Nat) (l0 : List Int) (A1_ : Option Addr) (c1 : Nat) (l1 : List Int) (w : World) (hr0 : Kd.C (Kd.int .u8) w A0 l0.length l0) (hc0 : l0.length ≤ c0) (hr1 : Kd.C (Kd.int .u8) w A1_ l1.length l1) (hc1 : l1.length ≤ c1) (ldw : LD w)
    (hbig : laws_big.f l0 l1 = some false)
    (l : List Int) (s : Int) (first : List Int) (ok can three seven : Bool) (few lists orders miss : Int) (none_ : List Int) (f1 : A1 l0 l s first ok can three seven few lists orders miss none_)
    (u : List Int) (gr : Int) (th fi : Bool) (tx st : ByteArray) (read : List Int) (se : Bool) (f2 : A2 l1 u gr th fi tx st read se) :
    Calls Tryz.prog 3 #[.slice A0 l0.length c0, .slice A1_ l1.length c1] w fun e w' => e = .returned (.bool true) ∧ Below w.heap.size w w' := by
  obtain ⟨k5, h5_⟩ := f1.draw
  have h5 := Aside0.mk h5_
  clear h5_
  obtain ⟨k23, h23_⟩ := f2.dU
  have h23 := Aside0.mk h23_
  clear h23_
  obtain ⟨k28, h28_⟩ := f2.dP
  have h28 := Aside0.mk h28_
  clear h28_
  obtain ⟨k6, h6_⟩ := f1.a6
  have h6 := Aside0.mk h6_
  clear h6_
  obtain ⟨k7, h7_⟩ := f1.a7
  have h7 := Aside0.mk h7_
  clear h7_
  obtain ⟨k8, h8_⟩ := f1.a8
  have h8 := Aside0.mk h8_
  clear h8_
  obtain ⟨k9, h9_⟩ := f1.a9
  have h9 := Aside0.mk h9_
  clear h9_
  obtain ⟨k10, h10_⟩ := f1.a10
  have h10 := Aside0.mk h10_
  clear h10_
  obtain ⟨k11, h11_⟩ := f1.a11
  have h11 := Aside0.mk h11_
  clear h11_
  obtain ⟨k12, h12_⟩ := f1.a12
  have h12 := Aside0.mk h12_
  clear h12_
  obtain ⟨k13, h13_⟩ := f1.a13
  have h13 := Aside0.mk h13_
  clear h13_
  obtain ⟨k14, h14_⟩ := f1.a14
  have h14 := Aside0.mk h14_
  clear h14_
  obtain ⟨k15, h15_⟩ := f1.a15
  have h15 := Aside0.mk h15_
  clear h15_
  obtain ⟨k16, h16_⟩ := f1.a16
  have h16 := Aside0.mk h16_
  clear h16_
  obtain ⟨k17, h17_⟩ := f1.a17
  have h17 := Aside0.mk h17_
  clear h17_
  obtain ⟨k18, h18_⟩ := f1.a18
  have h18 := Aside0.mk h18_
  clear h18_
  obtain ⟨k19, h19_⟩ := f1.a19
  have h19 := Aside0.mk h19_
  clear h19_
  obtain ⟨k24, h24_⟩ := f2.a24
  have h24 := Aside0.mk h24_
  clear h24_
  obtain ⟨k25, h25_⟩ := f2.a25
  have h25 := Aside0.mk h25_
  clear h25_
  obtain ⟨k26, h26_⟩ := f2.a26
  have h26 := Aside0.mk h26_
  clear h26_
  obtain ⟨k27, h27_⟩ := f2.a27
  have h27 := Aside0.mk h27_
  clear h27_
  obtain ⟨k29, h29_⟩ := f2.a29
  have h29 := Aside0.mk h29_
  clear h29_
  obtain ⟨k30, h30_⟩ := f2.a30
  have h30 := Aside0.mk h30_
  clear h30_
  obtain ⟨k31, h31_⟩ := f2.a31
  have h31 := Aside0.mk h31_
  clear h31_
  obtain ⟨k32, h32_⟩ := f2.a32
  have h32 := Aside0.mk h32_
  clear h32_
  have F := Aside0.mk f1
  have F2 := Aside0.mk f2
  have HR0 := Aside0.mk hr0
  have HC0 := Aside0.mk hc0
  have HR1 := Aside0.mk hr1
  have HC1 := Aside0.mk hc1
  have LDW := Aside0.mk ldw
  have HG := Aside0.mk hbig
  clear f1 f2 hr0 hc0 hr1 hc1 ldw hbig
  go_enter Tryz.func3, Tryz.ntmps3
  go_upto_region 18 with (first | (go_at_call 4; (with_reducible refine (laws_big.calls A0 c0 l0 A1_ c1 l1 false _ HR0.out HC0.out HR1.out HC1.out HG.out).mono ?_); rintro e w1 ⟨rfl, ⟨m1, rfl⟩⟩; have HB := Aside0.mk (pw_below_drewN (Below.refl w.heap.size w) m1)) | (go_at_call 5; (with_reducible refine (spec_DrawFirstGoals.calls k5 A0 c0 l0 l s _ (Kd.C_drewN HR0.out _) HC0.out h5.out).mono ?_); rintro e w1 ⟨v0, rfl, hR, hb⟩; obtain ⟨Ak, ck, eR, hl, hC⟩ := Kd.R_reads hR; subst eR; have HB2 := Aside0.mk (below_step HB.out hb); have H5 := Aside0.mk hC; have BH5 := Aside0.mk hl; clear HB hb hR hC hl; have HB := HB2; clear HB2) | (go_at_call 6; (with_reducible refine (impl_FirstGoals.calls k6 Ak ck l s first ok _ H5.out BH5.out h6.out).mono ?_); rintro e w1 ⟨v0, rfl, hR, hb⟩; obtain ⟨Af, cf, eR, hl, hC⟩ := Kd.R_reads hR; subst eR; have HB2 := Aside0.mk (below_step HB.out hb); have H52 := Aside0.mk (Kd.C_below H5.out hb); clear H5; have H5 := H52; clear H52; have H7 := Aside0.mk hC; have BH7 := Aside0.mk hl; clear HB hb hR hC hl; have HB := HB2; clear HB2) | (go_at_call 7; (with_reducible refine (spec_FirstGoals.calls k7 Ak ck l s first ok _ H5.out BH5.out h7.out).mono ?_); rintro e w1 ⟨v0, rfl, hR, hb⟩; obtain ⟨Ag, cg, eR, hl, hC⟩ := Kd.R_reads hR; subst eR; have HB2 := Aside0.mk (below_step HB.out hb); have H52 := Aside0.mk (Kd.C_below H5.out hb); clear H5; have H5 := H52; clear H52; have H72 := Aside0.mk (Kd.C_below H7.out hb); clear H7; have H7 := H72; clear H72; have H9 := Aside0.mk hC; have BH9 := Aside0.mk hl; clear HB hb hR hC hl; have HB := HB2; clear HB2) | (go_at_call 8; (with_reducible refine (impl_FewestGoals.calls k8 Ak ck l s few ok _ H5.out BH5.out h8.out).mono ?_); rintro e w1 ⟨rfl, hb⟩; have HB2 := Aside0.mk (below_step HB.out hb); have H52 := Aside0.mk (Kd.C_below H5.out hb); clear H5; have H5 := H52; clear H52; have H72 := Aside0.mk (Kd.C_below H7.out hb); clear H7; have H7 := H72; clear H72; have H92 := Aside0.mk (Kd.C_below H9.out hb); clear H9; have H9 := H92; clear H92; clear HB hb; have HB := HB2; clear HB2) | (go_at_call 9; (with_reducible refine (spec_FewestGoals.calls k9 Ak ck l s few ok _ H5.out BH5.out h9.out).mono ?_); rintro e w1 ⟨rfl, hb⟩; have HB2 := Aside0.mk (below_step HB.out hb); have H52 := Aside0.mk (Kd.C_below H5.out hb); clear H5; have H5 := H52; clear H52; have H72 := Aside0.mk (Kd.C_below H7.out hb); clear H7; have H7 := H72; clear H72; have H92 := Aside0.mk (Kd.C_below H9.out hb); clear H9; have H9 := H92; clear H92; clear HB hb; have HB := HB2; clear HB2) | (go_at_call 10; (with_reducible refine (impl_CanReach.calls k10 Ak ck l s can three _ H5.out BH5.out h10.out).mono ?_); rintro e w1 ⟨rfl, hb⟩; have HB2 := Aside0.mk (below_step HB.out hb); have H52 := Aside0.mk (Kd.C_below H5.out hb); clear H5; have H5 := H52; clear H52; have H72 := Aside0.mk (Kd.C_below H7.out hb); clear H7; have H7 := H72; clear H72; have H92 := Aside0.mk (Kd.C_below H9.out hb); clear H9; have H9 := H92; clear H92; clear HB hb; have HB := HB2; clear HB2) | (go_at_call 11; (with_reducible refine (spec_CanReach.calls k11 Ak ck l s can three _ H5.out BH5.out h11.out).mono ?_); rintro e w1 ⟨rfl, hb⟩; have HB2 := Aside0.mk (below_step HB.out hb); have H52 := Aside0.mk (Kd.C_below H5.out hb); clear H5; have H5 := H52; clear H52; have H72 := Aside0.mk (Kd.C_below H7.out hb); clear H7; have H7 := H72; clear H72; have H92 := Aside0.mk (Kd.C_below H9.out hb); clear H9; have H9 := H92; clear H92; clear HB hb; have HB := HB2; clear HB2) | (go_at_call 12; (with_reducible refine (impl_CountGoalLists.calls k12 Ak ck l s lists three _ H5.out BH5.out h12.out).mono ?_); rintro e w1 ⟨rfl, hb⟩; have HB2 := Aside0.mk (below_step HB.out hb); have H52 := Aside0.mk (Kd.C_below H5.out hb); clear H5; have H5 := H52; clear H52; have H72 := Aside0.mk (Kd.C_below H7.out hb); clear H7; have H7 := H72; clear H72; have H92 := Aside0.mk (Kd.C_below H9.out hb); clear H9; have H9 := H92; clear H92; clear HB hb; have HB := HB2; clear HB2) | (go_at_call 13; (with_reducible refine (spec_CountGoalLists.calls k13 Ak ck l s lists three _ H5.out BH5.out h13.out).mono ?_); rintro e w1 ⟨rfl, hb⟩; have HB2 := Aside0.mk (below_step HB.out hb); have H52 := Aside0.mk (Kd.C_below H5.out hb); clear H5; have H5 := H52; clear H52; have H72 := Aside0.mk (Kd.C_below H7.out hb); clear H7; have H7 := H72; clear H72; have H92 := Aside0.mk (Kd.C_below H9.out hb); clear H9; have H9 := H92; clear H92; clear HB hb; have HB := HB2; clear HB2) | (go_at_call 14; (with_reducible refine (impl_CountGoalOrders.calls k14 Ak ck l s orders seven _ H5.out BH5.out h14.out).mono ?_); rintro e w1 ⟨rfl, hb⟩; have HB2 := Aside0.mk (below_step HB.out hb); have H52 := Aside0.mk (Kd.C_below H5.out hb); clear H5; have H5 := H52; clear H52; have H72 := Aside0.mk (Kd.C_below H7.out hb); clear H7; have H7 := H72; clear H72; have H92 := Aside0.mk (Kd.C_below H9.out hb); clear H9; have H9 := H92; clear H92; clear HB hb; have HB := HB2; clear HB2) | (go_at_call 15; (with_reducible refine (spec_CountGoalOrders.calls k15 Ak ck l s orders seven _ H5.out BH5.out h15.out).mono ?_); rintro e w1 ⟨rfl, hb⟩; have HB2 := Aside0.mk (below_step HB.out hb); have H52 := Aside0.mk (Kd.C_below H5.out hb); clear H5; have H5 := H52; clear H52; have H72 := Aside0.mk (Kd.C_below H7.out hb); clear H7; have H7 := H72; clear H72; have H92 := Aside0.mk (Kd.C_below H9.out hb); clear H9; have H9 := H92; clear H92; clear HB hb; have HB := HB2; clear HB2) | (go_at_call 16; (with_reducible refine (impl_NotReached.calls k16 Ak ck l s none_ three _ H5.out BH5.out h16.out).mono ?_); rintro e w1 ⟨v0, rfl, hR, hb⟩; obtain ⟨An, cn, eR, hl, hC⟩ := Kd.R_reads hR; subst eR; have HB2 := Aside0.mk (below_step HB.out hb); have H52 := Aside0.mk (Kd.C_below H5.out hb); clear H5; have H5 := H52; clear H52; have H72 := Aside0.mk (Kd.C_below H7.out hb); clear H7; have H7 := H72; clear H72; have H92 := Aside0.mk (Kd.C_below H9.out hb); clear H9; have H9 := H92; clear H92; have H27 := Aside0.mk hC; have BH27 := Aside0.mk hl; clear HB hb hR hC hl; have HB := HB2; clear HB2) | (go_at_call 17; (with_reducible refine (spec_NotReached.calls k17 Ak ck l s none_ three _ H5.out BH5.out h17.out).mono ?_); rintro e w1 ⟨v0, rfl, hR, hb⟩; obtain ⟨Ao, co, eR, hl, hC⟩ := Kd.R_reads hR; subst eR; have HB2 := Aside0.mk (below_step HB.out hb); have H52 := Aside0.mk (Kd.C_below H5.out hb); clear H5; have H5 := H52; clear H52; have H72 := Aside0.mk (Kd.C_below H7.out hb); clear H7; have H7 := H72; clear H72; have H92 := Aside0.mk (Kd.C_below H9.out hb); clear H9; have H9 := H92; clear H92; have H272 := Aside0.mk (Kd.C_below H27.out hb); clear H27; have H27 := H272; clear H272; have H29 := Aside0.mk hC; have BH29 := Aside0.mk hl; clear HB hb hR hC hl; have HB := HB2; clear HB2) | (go_at_call 18; (with_reducible refine (impl_GoalsMissing.calls k18 Ak ck l s miss three _ H5.out BH5.out h18.out).mono ?_); rintro e w1 ⟨rfl, ⟨m2, rfl⟩⟩) | (go_at_call 19; (with_reducible refine (spec_GoalsMissing.calls k19 Ak ck l s miss three _ ?sa BH5.out h19.out).mono ?_); (case sa => first | exact H5.out | exact Kd.C_drewN H5.out _); rintro e w1 ⟨rfl, ⟨m3, rfl⟩⟩))
  rename_i K_ hK_
  obtain ⟨kF, hF⟩ := F.out.sF
  obtain ⟨kN, hN⟩ := F.out.sN
  refine p18 l first none_ s few lists orders miss ok can three seven Ak Af Ag An Ao ck cf cg cn co _ _ _ _ _ _ _ _ _ _ _ _ _ _ _ _ _ _ _ _ _ _ _ _ _ _ _ _ _ _ _ _ _ _ _ _ _ _ _ _ _ _ _ _ _ _ _ _ _ _ _ _ _ _ _ _ _ _ _ _ _ _ _ _ _ _ _ _ _ _ _ _ _ _ _ _ _ _ _ _ _ _ _ _ _ _ _ _ _ _ _ _ _ _ _ _ _ _ _ _ _ _ _ _ _ _ _ _ _ _ _ _ _ _ _ _ _ _ _ _ _ _ _ _ _ _ _ _ _ _ _ _ _ _ _ _ _ _ _ _ _ _ _ _ _ _ _ _ _ _ _ _ _ _ _ _ _ _ _ _ _ _ _ _ _ _ _ _ _ _ _ _ _ _ _ _ _ _ _ _ _ _ _ _ _ _ _ _ _ _ _ _ _ _ _ _ _ _ _ _ _ _ _ _ _ _ _ _ _ _ _ _ _ _ _ _ _ _ _ _ _ _ _ _ _ _ _ _ _ _ _ _ _ _ _ _ _ _ _ _ _ _ _ _ _ _ _ _ _ _ _ _ _ _ _ _ _ _ _ _ _ _ _ _ _ _ _ _ _ _ _ _ _ _ _ _ _ _ _ _ _ _ _ _ _ _ _ _ _ _ _ _ _ _ _ _ _ _ _ _ _ _ _ _ _ _ _ _ _ _ _ _ _ _ _ _ _ _ _ _ _ _ _ _ _ _ _ _ _ _ _ _ _ _ _ _ _ _ _ _ _ _ _ _ _ _ _ _ _ _ _ _ _ _ _ _ _ _ _ _ _ _ _ _ _ _ _ _ _ _ _ _ _ _ _ _ _ _ _ _ _ _ _ _ _ _ _ _ _ _ _ _ _ _ _ _ _ _ _ _ _ _ _ _ _ _ _ _ _ _ _ _ _ _ _ _ _ _ _ _ _ _ _ _ _ _ _ _ _ _ _ _ _ _ _ _ _ _ _ _ _ _ _ _ _ _ _ _ _ _ _ _ _ _ _ _ _ _ _ _ _ _ _ _ _ _ _ _ _ _ _ _ _ _ _ _ _ _ _ _ _ _ _ _ (Below.refl _ _) F.out.rel.1 F.out.rel.2 kF kN hF hN (by first | exact H7.out | exact Kd.C_drewN H7.out _ | exact Kd.C_drewN (Kd.C_drewN H7.out _) _) BH7.out (by first | exact H9.out | exact Kd.C_drewN H9.out _ | exact Kd.C_drewN (Kd.C_drewN H9.out _) _) BH9.out (by first | exact H27.out | exact Kd.C_drewN H27.out _ | exact Kd.C_drewN (Kd.C_drewN H27.out _) _) BH27.out (by first | exact H29.out | exact Kd.C_drewN H29.out _ | exact Kd.C_drewN (Kd.C_drewN H29.out _) _) BH29.out ?_
  intro x153 x154 x155 x156 x157 x158 x159 x160 x161 x162 x163 x164 x165 x166 x167 x168 x169 x170 x171 x172 x173 x174 x175 x176 x177 x178 x179 x180 x181 x182 x183 x184 x185 x186 x187 x188 x189 x190 x191 x192 x193 x194 x195 x196 x197 x198 x199 x200 x201 x202 x203 x204 x205 x206 x207 x208 x209 x210 x211 x212 x213 x214 x215 x216 x217 x218 x219 x220 x221 x222 x223 x224 x225 x226 x227 x228 x229 x230 x231 x232 x233 x234 x235 x236 x237 x238 x239 x240 x241 x242 x243 x244 x245 x246 x247 x248 x249 x250 x251 x252 x253 x254 x255 x256 w18 hb18
  have HBn := Aside0.mk (below_step (by first | exact HB.out | exact pw_below_drewN HB.out _ | exact pw_below_drewN (pw_below_drewN HB.out _) _) hb18)
  have H5n := Aside0.mk (Kd.C_below (by first | exact H5.out | exact Kd.C_drewN H5.out _ | exact Kd.C_drewN (Kd.C_drewN H5.out _) _) hb18)
  have H7n := Aside0.mk (Kd.C_below (by first | exact H7.out | exact Kd.C_drewN H7.out _ | exact Kd.C_drewN (Kd.C_drewN H7.out _) _) hb18)
  have H27n := Aside0.mk (Kd.C_below (by first | exact H27.out | exact Kd.C_drewN H27.out _ | exact Kd.C_drewN (Kd.C_drewN H27.out _) _) hb18)
  clear HB H5 H7 H27 hb18
  have HB := HBn
  have H5 := H5n
  have H7 := H7n
  have H27 := H27n
  clear HBn H5n H7n H27n
  change K_ _ _
  refine hK_ _ _ ?_
  clear hK_ K_ H9 H29
  go_upto_if 258 with fail
  rename_i K_ hK_
  refine b258 l none_ s lists orders miss can three seven Ak An ck cn _ _ _ _ _ _ _ _ _ _ _ _ _ _ _ _ _ _ _ _ _ _ _ _ _ _ _ _ _ _ _ _ _ _ _ _ _ _ _ _ _ _ _ _ _ _ _ _ _ _ _ _ _ _ _ _ _ _ _ _ _ _ _ _ _ _ _ _ _ _ _ _ _ _ _ _ _ _ _ _ _ _ _ _ _ _ _ _ _ _ _ _ _ _ _ _ _ _ _ _ _ _ _ _ _ _ _ _ _ _ _ _ _ _ _ _ _ _ _ _ _ _ _ _ _ _ _ _ _ _ _ _ _ _ _ _ _ _ _ _ _ _ _ _ _ _ _ _ _ _ _ _ _ _ _ _ _ _ _ _ _ _ _ _ _ _ _ _ _ _ _ _ _ _ _ _ _ _ _ _ _ _ _ _ _ _ _ _ _ _ _ _ _ _ _ _ _ _ _ _ _ _ _ _ _ _ _ _ _ _ _ _ _ _ _ _ _ _ _ _ _ _ _ _ _ _ _ _ _ _ _ _ _ _ _ _ _ _ _ _ _ _ _ _ _ _ _ _ _ _ _ _ _ _ _ _ _ _ _ _ _ _ _ _ _ _ _ _ _ _ _ _ _ _ _ _ _ _ _ _ _ _ _ _ _ _ _ _ _ _ _ _ _ _ _ _ _ _ _ _ _ _ _ _ _ _ _ _ _ _ _ _ _ _ _ _ _ _ _ _ _ _ _ _ _ _ _ _ _ _ _ _ _ _ _ _ _ _ _ _ _ _ _ _ _ _ _ _ _ _ _ _ _ _ _ _ _ _ _ _ _ _ _ _ _ _ _ _ _ _ _ _ _ _ _ _ _ _ _ _ _ _ _ _ _ _ _ _ _ _ _ _ _ _ _ _ _ _ _ _ _ _ _ _ _ _ _ _ _ _ _ _ _ _ _ _ _ _ _ _ _ _ _ _ _ _ _ _ _ _ _ _ _ _ _ _ _ _ _ _ _ _ _ _ _ _ _ _ _ _ _ _ _ _ _ _ _ _ _ _ _ _ _ _ _ _ _ _ _ _ _ _ _ _ _ _ _ _ _ _ _ _ _ _ _ _ _ _ _ _ _ _ _ _ _ _ _ _ _ _ _ _ _ _ (Below.refl _ _) F.out.tf H5.out H27.out BH27.out ?_
  intro y4 y35 y259 y260 y261 y262 y263 y264 y265 y266 y267 y268 y269 y270 y271 y272 y273 y274 y275 y276 y277 y278 y279 y280 y281 y282 y283 y284 y285 y286 y287 y288 y289 y290 y291 y292 y293 y294 y295 y296 y297 y298 y299 y300 y301 y302 y303 y304 y305 y306 y307 y308 y309 y310 y311 y312 y313 w258 hb258
  have HBn := Aside0.mk (below_step (by first | exact HB.out | exact pw_below_drewN HB.out _ | exact pw_below_drewN (pw_below_drewN HB.out _) _) hb258)
  have H5n := Aside0.mk (Kd.C_below (by first | exact H5.out | exact Kd.C_drewN H5.out _ | exact Kd.C_drewN (Kd.C_drewN H5.out _) _) hb258)
  have H7n := Aside0.mk (Kd.C_below (by first | exact H7.out | exact Kd.C_drewN H7.out _ | exact Kd.C_drewN (Kd.C_drewN H7.out _) _) hb258)
  clear HB H5 H7 hb258
  have HB := HBn
  have H5 := H5n
  have H7 := H7n
  clear HBn H5n H7n
  change K_ _ _
  refine hK_ _ _ ?_
  clear hK_ K_ H27
  go_upto_if 314 with fail
  rename_i K_ hK_
  obtain ⟨X, Y, hXY⟩ := F.out.of_
  refine b314 l first s few ok X Y Ak Af ck cf _ _ _ _ _ _ _ _ _ _ _ _ _ _ _ _ _ _ _ _ _ _ _ _ _ _ _ _ _ _ _ _ _ _ _ _ _ _ _ _ _ _ _ _ _ _ _ _ _ _ _ _ _ _ _ _ _ _ _ _ _ _ _ _ _ _ _ _ _ _ _ _ _ _ _ _ _ _ _ _ _ _ _ _ _ _ _ _ _ _ _ _ _ _ _ _ _ _ _ _ _ _ _ _ _ _ _ _ _ _ _ _ _ _ _ _ _ _ _ _ _ _ _ _ _ _ _ _ _ _ _ _ _ _ _ _ _ _ _ _ _ _ _ _ _ _ _ _ _ _ _ _ _ _ _ _ _ _ _ _ _ _ _ _ _ _ _ _ _ _ _ _ _ _ _ _ _ _ _ _ _ _ _ _ _ _ _ _ _ _ _ _ _ _ _ _ _ _ _ _ _ _ _ _ _ _ _ _ _ _ _ _ _ _ _ _ _ _ _ _ _ _ _ _ _ _ _ _ _ _ _ _ _ _ _ _ _ _ _ _ _ _ _ _ _ _ _ _ _ _ _ _ _ _ _ _ _ _ _ _ _ _ _ _ _ _ _ _ _ _ _ _ _ _ _ _ _ _ _ _ _ _ _ _ _ _ _ _ _ _ _ _ _ _ _ _ _ _ _ _ _ _ _ _ _ _ _ _ _ _ _ _ _ _ _ _ _ _ _ _ _ _ _ _ _ _ _ _ _ _ _ _ _ _ _ _ _ _ _ _ _ _ _ _ _ _ _ _ _ _ _ _ _ _ _ _ _ _ _ _ _ _ _ _ _ _ _ _ _ _ _ _ _ _ _ _ _ _ _ _ _ _ _ _ _ _ _ _ _ _ _ _ _ _ _ _ _ _ _ _ _ _ _ _ _ _ _ _ _ _ _ _ _ _ _ _ _ _ _ _ _ _ _ _ _ _ _ _ _ _ _ _ _ _ _ _ _ _ _ _ _ _ _ _ _ _ _ _ _ _ _ _ _ _ _ _ _ _ _ _ _ _ _ _ _ _ _ _ _ _ _ _ _ _ _ _ _ _ _ _ _ _ _ _ _ _ _ _ _ _ _ _ _ _ _ _ _ _ _ _ _ _ _ _ _ _ _ _ (Below.refl _ _) hXY H5.out H7.out ?_
  intro z4 z36 z37 z38 z39 z315 z316 z317 z318 z319 z320 z321 z322 z323 z324 z325 z326 z327 z328 z329 z330 z331 z332 z333 z334 z335 z336 z337 z338 z339 z340 z341 z342 z343 z344 z345 z346 z347 z348 z349 z350 z351 z352 z353 z354 z355 z356 z357 z358 z359 z360 z361 z362 z363 z364 z365 z366 z367 z368 z369 w314 hb314
  have HBn := Aside0.mk (below_step (by first | exact HB.out | exact pw_below_drewN HB.out _ | exact pw_below_drewN (pw_below_drewN HB.out _) _) hb314)
  clear HB  hb314
  have HB := HBn
  clear HBn
  change K_ _ _
  refine hK_ _ _ ?_
  clear hK_ K_ H5 H7 hXY
  go_upto_region 46 with (first | (go_at_call 23; (with_reducible refine (spec_DrawGreatestNotReached.calls k23 A1_ c1 l1 u _ (Kd.C_below HR1.out HB.out) HC1.out h23.out).mono ?_); rintro e w1 ⟨v0, rfl, hR, hb⟩; obtain ⟨Au, cu, eR, hl, hC⟩ := Kd.R_reads hR; subst eR; have HB2 := Aside0.mk (below_step HB.out hb); have H40 := Aside0.mk hC; have BH40 := Aside0.mk hl; clear HB hb hR hC hl; have HB := HB2; clear HB2) | (go_at_call 24; (with_reducible refine (impl_GreatestNotReached.calls k24 Au cu u gr th _ H40.out BH40.out h24.out).mono ?_); rintro e w1 ⟨rfl, hb⟩; have HB2 := Aside0.mk (below_step HB.out hb); have H402 := Aside0.mk (Kd.C_below H40.out hb); clear H40; have H40 := H402; clear H402; clear HB hb; have HB := HB2; clear HB2) | (go_at_call 25; (with_reducible refine (spec_GreatestNotReached.calls k25 Au cu u gr th _ H40.out BH40.out h25.out).mono ?_); rintro e w1 ⟨rfl, hb⟩; have HB2 := Aside0.mk (below_step HB.out hb); have H402 := Aside0.mk (Kd.C_below H40.out hb); clear H40; have H40 := H402; clear H402; clear HB hb; have HB := HB2; clear HB2) | (go_at_call 26; (with_reducible refine (impl_KindsText.calls k26 Au cu u tx fi _ H40.out BH40.out h26.out).mono ?_); rintro e w1 ⟨rfl, hb⟩; have HB2 := Aside0.mk (below_step HB.out hb); have H402 := Aside0.mk (Kd.C_below H40.out hb); clear H40; have H40 := H402; clear H402; clear HB hb; have HB := HB2; clear HB2) | (go_at_call 27; (with_reducible refine (spec_KindsText.calls k27 Au cu u tx fi _ H40.out BH40.out h27.out).mono ?_); rintro e w1 ⟨rfl, hb⟩; have HB2 := Aside0.mk (below_step HB.out hb); have H402 := Aside0.mk (Kd.C_below H40.out hb); clear H40; have H40 := H402; clear H402; clear HB hb; have HB := HB2; clear HB2) | (go_at_call 28; (with_reducible refine (spec_DrawParseKinds.calls k28 A1_ c1 l1 st _ (Kd.C_below HR1.out HB.out) HC1.out h28.out).mono ?_); rintro e w1 ⟨rfl, hb⟩; have HB2 := Aside0.mk (below_step HB.out hb); have H402 := Aside0.mk (Kd.C_below H40.out hb); clear H40; have H40 := H402; clear H402; clear HB hb; have HB := HB2; clear HB2) | (go_at_call 29; (with_reducible refine (impl_ParseKinds.calls k29 st read se _ h29.out (LD.below LDW.out HB.out)).mono ?_); rintro e w1 ⟨v0, rfl, hR, hb⟩; obtain ⟨Ar, cr, eR, hl, hC⟩ := Kd.R_reads hR; subst eR; have HB2 := Aside0.mk (below_step HB.out hb); have H402 := Aside0.mk (Kd.C_below H40.out hb); clear H40; have H40 := H402; clear H402; have H50 := Aside0.mk hC; have BH50 := Aside0.mk hl; clear HB hb hR hC hl; have HB := HB2; clear HB2) | (go_at_call 30; (with_reducible refine (spec_ParseKinds.calls k30 st read se _ h30.out).mono ?_); rintro e w1 ⟨v0, rfl, hR, hb⟩; obtain ⟨Aq, cq, eR, hl, hC⟩ := Kd.R_reads hR; subst eR; have HB2 := Aside0.mk (below_step HB.out hb); have H402 := Aside0.mk (Kd.C_below H40.out hb); clear H40; have H40 := H402; clear H402; have H502 := Aside0.mk (Kd.C_below H50.out hb); clear H50; have H50 := H502; clear H502; have H52 := Aside0.mk hC; have BH52 := Aside0.mk hl; clear HB hb hR hC hl; have HB := HB2; clear HB2))
  rename_i K_ hK_
  obtain ⟨kS, hS⟩ := F2.out.sR
  refine p46 u read gr th fi se tx st Au Ar Aq cu cr cq _ _ _ _ _ _ _ _ _ _ _ _ _ _ _ _ _ _ _ _ _ _ _ _ _ _ _ _ _ _ _ _ _ _ _ _ _ _ _ _ _ _ _ _ _ _ _ _ _ _ _ _ _ _ _ _ _ _ _ _ _ _ _ _ _ _ _ _ _ _ _ _ _ _ _ _ _ _ _ _ _ _ _ _ _ _ _ _ _ _ _ _ _ _ _ _ _ _ _ _ _ _ _ _ _ _ _ _ _ _ _ _ _ _ _ _ _ _ _ _ _ _ _ _ _ _ _ _ _ _ _ _ _ _ _ _ _ _ _ _ _ _ _ _ _ _ _ _ _ _ _ _ _ _ _ _ _ _ _ _ _ _ _ _ _ _ _ _ _ _ _ _ _ _ _ _ _ _ _ _ _ _ _ _ _ _ _ _ _ _ _ _ _ _ _ _ _ _ _ _ _ _ _ _ _ _ _ _ _ _ _ _ _ _ _ _ _ _ _ _ _ _ _ _ _ _ _ _ _ _ _ _ _ _ _ _ _ _ _ _ _ _ _ _ _ _ _ _ _ _ _ _ _ _ _ _ _ _ _ _ _ _ _ _ _ _ _ _ _ _ _ _ _ _ _ _ _ _ _ _ _ _ _ _ _ _ _ _ _ _ _ _ _ _ _ _ _ _ _ _ _ _ _ _ _ _ _ _ _ _ _ _ _ _ _ _ _ _ _ _ _ _ _ _ _ _ _ _ _ _ _ _ _ _ _ _ _ _ _ _ _ _ _ _ _ _ _ _ _ _ _ _ _ _ _ _ _ _ _ _ _ _ _ _ _ _ _ _ _ _ _ _ _ _ _ _ _ _ _ _ _ _ _ _ _ _ _ _ _ _ _ _ _ _ _ _ _ _ _ _ _ _ _ _ _ _ _ _ _ _ _ _ _ _ _ _ _ _ _ _ _ _ _ _ _ _ _ _ _ _ _ _ _ _ _ _ _ _ _ _ _ _ _ _ _ _ _ _ _ _ _ _ _ _ _ _ _ _ _ _ _ _ _ _ _ _ _ _ _ _ _ _ _ _ _ _ _ _ _ _ _ _ _ _ _ _ _ _ _ _ _ _ _ _ _ _ _ _ _ _ (Below.refl _ _) F2.out.rel kS k31 k32 hS h31.out h32.out H40.out BH40.out H50.out BH50.out H52.out BH52.out ?_
  intro a404 a405 a406 a407 a408 a409 a410 a411 a412 a413 a414 a415 a416 a417 a418 a419 a420 a421 a422 a423 a424 a425 a426 a427 a428 a429 a430 a431 a432 a433 a434 a435 a436 a437 a438 a439 a440 a441 a442 a443 a444 a445 a446 a447 a448 a449 a450 a451 w46 hb46
  have HBn := Aside0.mk (below_step (by first | exact HB.out | exact pw_below_drewN HB.out _ | exact pw_below_drewN (pw_below_drewN HB.out _) _) hb46)
  have H40n := Aside0.mk (Kd.C_below (by first | exact H40.out | exact Kd.C_drewN H40.out _ | exact Kd.C_drewN (Kd.C_drewN H40.out _) _) hb46)
  have H50n := Aside0.mk (Kd.C_below (by first | exact H50.out | exact Kd.C_drewN H50.out _ | exact Kd.C_drewN (Kd.C_drewN H50.out _) _) hb46)
  clear HB H40 H50 hb46
  have HB := HBn
  have H40 := H40n
  have H50 := H50n
  clear HBn H40n H50n
  change K_ _ _
  refine hK_ _ _ ?_
  clear hK_ K_ H52
  go_upto_if 453 with fail
  rename_i K_ hK_
  refine b453 u gr th Au cu _ _ _ _ _ _ _ _ _ _ _ _ _ _ _ _ _ _ _ _ _ _ _ _ _ _ _ _ _ _ _ _ _ _ _ _ _ _ _ _ _ _ _ _ _ _ _ _ _ _ _ _ _ _ _ _ _ _ _ _ _ _ _ _ _ _ _ _ _ _ _ _ _ _ _ _ _ _ _ _ _ _ _ _ _ _ _ _ _ _ _ _ _ _ _ _ _ _ _ _ _ _ _ _ _ _ _ _ _ _ _ _ _ _ _ _ _ _ _ _ _ _ _ _ _ _ _ _ _ _ _ _ _ _ _ _ _ _ _ _ _ _ _ _ _ _ _ _ _ _ _ _ _ _ _ _ _ _ _ _ _ _ _ _ _ _ _ _ _ _ _ _ _ _ _ _ _ _ _ _ _ _ _ _ _ _ _ _ _ _ _ _ _ _ _ _ _ _ _ _ _ _ _ _ _ _ _ _ _ _ _ _ _ _ _ _ _ _ _ _ _ _ _ _ _ _ _ _ _ _ _ _ _ _ _ _ _ _ _ _ _ _ _ _ _ _ _ _ _ _ _ _ _ _ _ _ _ _ _ _ _ _ _ _ _ _ _ _ _ _ _ _ _ _ _ _ _ _ _ _ _ _ _ _ _ _ _ _ _ _ _ _ _ _ _ _ _ _ _ _ _ _ _ _ _ _ _ _ _ _ _ _ _ _ _ _ _ _ _ _ _ _ _ _ _ _ _ _ _ _ _ _ _ _ _ _ _ _ _ _ _ _ _ _ _ _ _ _ _ _ _ _ _ _ _ _ _ _ _ _ _ _ _ _ _ _ _ _ _ _ _ _ _ _ _ _ _ _ _ _ _ _ _ _ _ _ _ _ _ _ _ _ _ _ _ _ _ _ _ _ _ _ _ _ _ _ _ _ _ _ _ _ _ _ _ _ _ _ _ _ _ _ _ _ _ _ _ _ _ _ _ _ _ _ _ _ _ _ _ _ _ _ _ _ _ _ _ _ _ _ _ _ _ _ _ _ _ _ _ _ _ _ _ _ _ _ _ _ _ _ _ _ _ _ _ _ _ _ _ _ _ _ _ _ _ _ _ _ _ _ _ _ _ _ _ _ _ _ _ _ _ _ _ _ _ _ _ _ _ _ (Below.refl _ _) F2.out.gf H40.out BH40.out ?_
  intro b4 b54 b55 b56 b454 b455 b456 b457 b458 b459 b460 b461 b462 b463 b464 b465 b466 b467 b468 b469 b470 b471 b472 b473 b474 b475 b476 b477 b478 b479 b480 b481 b482 b483 b484 w453 hb453
  have HBn := Aside0.mk (below_step (by first | exact HB.out | exact pw_below_drewN HB.out _ | exact pw_below_drewN (pw_below_drewN HB.out _) _) hb453)
  have H40n := Aside0.mk (Kd.C_below (by first | exact H40.out | exact Kd.C_drewN H40.out _ | exact Kd.C_drewN (Kd.C_drewN H40.out _) _) hb453)
  have H50n := Aside0.mk (Kd.C_below (by first | exact H50.out | exact Kd.C_drewN H50.out _ | exact Kd.C_drewN (Kd.C_drewN H50.out _) _) hb453)
  clear HB H40 H50 hb453
  have HB := HBn
  have H40 := H40n
  have H50 := H50n
  clear HBn H40n H50n
  change K_ _ _
  refine hK_ _ _ ?_
  clear hK_ K_
  go_upto_if 485 with fail
  rename_i K_ hK_
  obtain ⟨kP, kQ, hPQ⟩ := F2.out.ag
  refine b485 u fi tx Au cu _ _ _ _ _ _ _ _ _ _ _ _ _ _ _ _ _ _ _ _ _ _ _ _ _ _ _ _ _ _ _ _ _ _ _ _ _ _ _ _ _ _ _ _ _ _ _ _ _ _ _ _ _ _ _ _ _ _ _ _ _ _ _ _ _ _ _ _ _ _ _ _ _ _ _ _ _ _ _ _ _ _ _ _ _ _ _ _ _ _ _ _ _ _ _ _ _ _ _ _ _ _ _ _ _ _ _ _ _ _ _ _ _ _ _ _ _ _ _ _ _ _ _ _ _ _ _ _ _ _ _ _ _ _ _ _ _ _ _ _ _ _ _ _ _ _ _ _ _ _ _ _ _ _ _ _ _ _ _ _ _ _ _ _ _ _ _ _ _ _ _ _ _ _ _ _ _ _ _ _ _ _ _ _ _ _ _ _ _ _ _ _ _ _ _ _ _ _ _ _ _ _ _ _ _ _ _ _ _ _ _ _ _ _ _ _ _ _ _ _ _ _ _ _ _ _ _ _ _ _ _ _ _ _ _ _ _ _ _ _ _ _ _ _ _ _ _ _ _ _ _ _ _ _ _ _ _ _ _ _ _ _ _ _ _ _ _ _ _ _ _ _ _ _ _ _ _ _ _ _ _ _ _ _ _ _ _ _ _ _ _ _ _ _ _ _ _ _ _ _ _ _ _ _ _ _ _ _ _ _ _ _ _ _ _ _ _ _ _ _ _ _ _ _ _ _ _ _ _ _ _ _ _ _ _ _ _ _ _ _ _ _ _ _ _ _ _ _ _ _ _ _ _ _ _ _ _ _ _ _ _ _ _ _ _ _ _ _ _ _ _ _ _ _ _ _ _ _ _ _ _ _ _ _ _ _ _ _ _ _ _ _ _ _ _ _ _ _ _ _ _ _ _ _ _ _ _ _ _ _ _ _ _ _ _ _ _ _ _ _ _ _ _ _ _ _ _ _ _ _ _ _ _ _ _ _ _ _ _ _ _ _ _ _ _ _ _ _ _ _ _ _ _ _ _ _ _ _ _ _ _ _ _ _ _ _ _ _ _ _ _ _ _ _ _ _ _ _ _ _ _ _ _ _ _ _ _ _ _ _ _ _ _ _ _ _ _ _ _ _ _ _ _ _ _ _ _ _ _ _ ⟨LD.below LDW.out HB.out⟩ (Below.refl _ _) kP kQ hPQ H40.out BH40.out ?_
  intro c4 c57 c58 c486 c487 c488 c489 c490 c491 c492 c493 c494 c495 c496 c497 c498 w485 hb485
  have HBn := Aside0.mk (below_step (by first | exact HB.out | exact pw_below_drewN HB.out _ | exact pw_below_drewN (pw_below_drewN HB.out _) _) hb485)
  have H50n := Aside0.mk (Kd.C_below (by first | exact H50.out | exact Kd.C_drewN H50.out _ | exact Kd.C_drewN (Kd.C_drewN H50.out _) _) hb485)
  clear HB H50 hb485
  have HB := HBn
  have H50 := H50n
  clear HBn H50n
  change K_ _ _
  refine hK_ _ _ ?_
  clear hK_ K_ H40 hPQ
  obtain ⟨kT, hT⟩ := F2.out.bk
  refine b499 read se st Ar cr _ _ _ _ _ _ _ _ _ _ _ _ _ _ _ _ _ _ _ _ _ _ _ _ _ _ _ _ _ _ _ _ _ _ _ _ _ _ _ _ _ _ _ _ _ _ _ _ _ _ _ _ _ _ _ _ _ _ _ _ _ _ _ _ _ _ _ _ _ _ _ _ _ _ _ _ _ _ _ _ _ _ _ _ _ _ _ _ _ _ _ _ _ _ _ _ _ _ _ _ _ _ _ _ _ _ _ _ _ _ _ _ _ _ _ _ _ _ _ _ _ _ _ _ _ _ _ _ _ _ _ _ _ _ _ _ _ _ _ _ _ _ _ _ _ _ _ _ _ _ _ _ _ _ _ _ _ _ _ _ _ _ _ _ _ _ _ _ _ _ _ _ _ _ _ _ _ _ _ _ _ _ _ _ _ _ _ _ _ _ _ _ _ _ _ _ _ _ _ _ _ _ _ _ _ _ _ _ _ _ _ _ _ _ _ _ _ _ _ _ _ _ _ _ _ _ _ _ _ _ _ _ _ _ _ _ _ _ _ _ _ _ _ _ _ _ _ _ _ _ _ _ _ _ _ _ _ _ _ _ _ _ _ _ _ _ _ _ _ _ _ _ _ _ _ _ _ _ _ _ _ _ _ _ _ _ _ _ _ _ _ _ _ _ _ _ _ _ _ _ _ _ _ _ _ _ _ _ _ _ _ _ _ _ _ _ _ _ _ _ _ _ _ _ _ _ _ _ _ _ _ _ _ _ _ _ _ _ _ _ _ _ _ _ _ _ _ _ _ _ _ _ _ _ _ _ _ _ _ _ _ _ _ _ _ _ _ _ _ _ _ _ _ _ _ _ _ _ _ _ _ _ _ _ _ _ _ _ _ _ _ _ _ _ _ _ _ _ _ _ _ _ _ _ _ _ _ _ _ _ _ _ _ _ _ _ _ _ _ _ _ _ _ _ _ _ _ _ _ _ _ _ _ _ _ _ _ _ _ _ _ _ _ _ _ _ _ _ _ _ _ _ _ _ _ _ _ _ _ _ _ _ _ _ _ _ _ _ _ _ _ _ _ _ _ _ _ _ _ _ _ _ _ _ _ _ _ _ _ _ _ _ _ _ _ _ _ _ _ _ _ _ _ _ _ _ _ _ _ _ _ (Below.refl _ _) kT hT H50.out BH50.out ?_
  intro d59 d60 d499 d500 d501 d502 d503 d504 d505 d506 d507 d508 d509 d510 w499 hb499
  have HBn := Aside0.mk (below_step (by first | exact HB.out | exact pw_below_drewN HB.out _ | exact pw_below_drewN (pw_below_drewN HB.out _) _) hb499)
  clear HB  hb499
  have HB := HBn
  clear HBn
  first
    | exact ⟨rfl, HB.out⟩
    | (go_wp2; exact ⟨rfl, HB.out⟩)
    | (go_ret; exact ⟨rfl, HB.out⟩)
end Go.Proofs.YthcbaogbncakdaaGreatDoor.QFnGoalsReached
