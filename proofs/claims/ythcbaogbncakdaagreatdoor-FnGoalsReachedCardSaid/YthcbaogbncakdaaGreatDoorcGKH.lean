/- laws.FnGoalsReached returns true at all bytes. No condition beside the types' own bounds. -/
import Derived.Test.YthcbaogbncakdaaGreatDoorcGKE
import Derived.Test.YthcbaogbncakdaaGreatDoorcGKG
import Derived.Test.YthcbaogbncakdaaGreatDoorcGLaw
import Derived.OpenShut
namespace Go.Proofs.YthcbaogbncakdaaGreatDoor.Pure
open Go.RowKit Go.Proofs.YthcbaogbncakdaaGreatDoor.QFnGoalsReached Go.Proofs.YthcbaogbncakdaaGreatDoorW.PrintWords Go.Proofs.YthcbaogbncakdaaGreatDoorW.PrintLast Go.Proofs.YthcbaogbncakdaaGreatDoorW.PrintMore
set_option linter.unusedVariables false
set_option linter.unusedSimpArgs false
set_option linter.unusedSectionVars false
theorem same_nil : Ev (fun k => laws_bSame.f k [] []) true := same_ev [] (by simp)
theorem none_ev {l : List Int} {s : Int} (hS : Ev (fun k => spec_goAsked.f k l s) false) (hI : Ev (fun k => impl_isAsked.f k l s) false) :
    (Ev (fun k => impl_FirstGoals.f k l s) ([], false) ∧ Ev (fun k => spec_FirstGoals.f k l s) ([], false)) ∧ (Ev (fun k => impl_FewestGoals.f k l s) (0, false) ∧ Ev (fun k => spec_FewestGoals.f k l s) (0, false)) ∧
    (Ev (fun k => impl_CanReach.f k l s) (false, false) ∧ Ev (fun k => spec_CanReach.f k l s) (false, false)) ∧ (Ev (fun k => impl_CountGoalLists.f k l s) (0, false) ∧ Ev (fun k => spec_CountGoalLists.f k l s) (0, false)) ∧
    (Ev (fun k => impl_CountGoalOrders.f k l s) (0, false) ∧ Ev (fun k => spec_CountGoalOrders.f k l s) (0, false)) ∧ (Ev (fun k => impl_NotReached.f k l s) ([], false) ∧ Ev (fun k => spec_NotReached.f k l s) ([], false)) ∧
    (Ev (fun k => impl_GoalsMissing.f k l s) (0, false) ∧ Ev (fun k => spec_GoalsMissing.f k l s) (0, false)) := by
  have hw : Ev (fun k => impl_FewestGoals.f k l s) (0, false) := by
    unfold impl_FewestGoals.f
    refine Ev.bind hI ?_
    simp only [Bool.false_eq_true, if_false]
    exact Ev.now _
  refine ⟨⟨?_, ?_⟩, ⟨hw, ?_⟩, ⟨?_, ?_⟩, ⟨?_, ?_⟩, ⟨?_, ?_⟩, ⟨?_, ?_⟩, ⟨?_, ?_⟩⟩
  · unfold impl_FirstGoals.f
    refine Ev.bind hw ?_
    simp only [Bool.false_eq_true, if_false]
    exact Ev.now _
  · unfold spec_FirstGoals.f
    refine Ev.bind hS ?_
    simp only [Bool.false_eq_true, if_false]
    exact Ev.now _
  · unfold spec_FewestGoals.f
    refine Ev.bind hS ?_
    simp only [Bool.false_eq_true, if_false]
    exact Ev.now _
  · unfold impl_CanReach.f
    refine Ev.bind hI ?_
    simp only [Bool.false_eq_true, if_false]
    exact Ev.now _
  · unfold spec_CanReach.f
    refine Ev.bind hS ?_
    simp only [Bool.false_eq_true, if_false]
    exact Ev.now _
  · unfold impl_CountGoalLists.f
    refine Ev.bind hI ?_
    simp only [Bool.false_eq_true, if_false]
    exact Ev.now _
  · unfold spec_CountGoalLists.f
    refine Ev.bind hS ?_
    simp only [Bool.false_eq_true, if_false]
    exact Ev.now _
  · unfold impl_CountGoalOrders.f
    refine Ev.bind hI ?_
    simp only [Bool.false_eq_true, if_false]
    exact Ev.now _
  · unfold spec_CountGoalOrders.f
    refine Ev.bind hS ?_
    simp only [Bool.false_eq_true, if_false]
    exact Ev.now _
  · unfold impl_NotReached.f
    refine Ev.bind hI ?_
    simp only [Bool.false_eq_true, if_false]
    exact Ev.now _
  · unfold spec_NotReached.f
    refine Ev.bind hS ?_
    simp only [Bool.false_eq_true, if_false]
    exact Ev.now _
  · unfold impl_GoalsMissing.f
    refine Ev.bind hI ?_
    simp only [Bool.false_eq_true, if_false]
    exact Ev.now _
  · unfold spec_GoalsMissing.f
    refine Ev.bind hS ?_
    simp only [Bool.false_eq_true, if_false]
    exact Ev.now _
theorem a1_true {l0 l : List Int} {s : Int} (hd : ∃ k, spec_DrawFirstGoals.f k l0 = some (l, s)) (hl : l.length ≤ 6) : ∃ first ok can three seven few lists orders miss none_, A1 l0 l s first ok can three seven few lists orders miss none_ := by
  obtain ⟨b, hb1, hb2, hb3⟩ := areK_ev l (by omega)
  obtain ⟨hS, hI⟩ := asked_ev hb1 hb2 s
  cases hc : (b && decide (0 ≤ s ∧ s ≤ 200)) with
  | false =>
    rw [hc] at hS hI
    obtain ⟨⟨p1, q1⟩, ⟨p2, q2⟩, ⟨p3, q3⟩, ⟨p4, q4⟩, ⟨p5, q5⟩, ⟨p6, q6⟩, p7, q7⟩ := none_ev hS hI
    exact ⟨[], false, false, false, false, 0, 0, 0, 0, [], ⟨hd, p1.rounds, q1.rounds, p2.rounds, q2.rounds, p3.rounds, q3.rounds, p4.rounds, q4.rounds, p5.rounds, q5.rounds, p6.rounds, q6.rounds, p7.rounds, q7.rounds, same_nil.rounds, same_nil.rounds, ⟨rfl, fun h => h⟩, fun h => (by cases h), fun _ => 0, fun _ => 0, fun h => (by cases h)⟩⟩
  | true =>
    rw [hc] at hS hI
    rw [Bool.and_eq_true] at hc
    obtain ⟨hbt, hsr⟩ := hc
    have hsr := of_decide_eq_true hsr
    have hK := hb3 hbt
    have hpos : ∀ x ∈ l, 1 ≤ x := fun x hx => (hK.mem x hx).1
    obtain ⟨m, rfl⟩ := Int.eq_ofNat_of_zero_le hsr.1
    have hm : m ≤ 200 := by omega
    have l1 := hK.l1
    have l5 := hK.l5
    have e1 := firstG_ev hK hm hS hI
    have e2 := fewest_ev hK hm hS hI
    have e3 := can_ev hK hm hS hI
    have e4 := lists_ev hK hm hS hI
    have e5 := ord_ev hK hm hS hI
    have e6 := nr_ev hK hm hS hI
    obtain ⟨g, v, hg, g1, g2, v1, v2, v3, v4, m1, m2⟩ := miss_ev hK hm hS hI
    rw [wrap_id (by omega) (by omega)] at hg
    have hlen := nrL_len l (m + 1) 0
    have sN := same_ev (nrL l 0 (m + 1)) (by omega)
    have hris := rises_ev (nrL l 0 (m + 1)) (nrL_sorted l (m + 1) 0) (by omega)
    have hhas := has_nr l m hm
    have hfb := fw_bound hpos m
    have hlci := lc_iff hpos m
    have hoci := oc_iff hpos m
    have hle := lc_le_oc hK m hm
    have hnot : decide (fw l m < 0) = !decide (fw l m ≥ 0) := by
      by_cases c : fw l m < 0
      · rw [decide_eq_true c, decide_eq_false (p := fw l m ≥ 0) (by omega)]; rfl
      · rw [decide_eq_false c, decide_eq_true (p := fw l m ≥ 0) (by omega)]; rfl
    rw [hnot] at hhas
    have hfew : ∃ seven orders, (if oc l m > 1000000000000000 then ((0 : Int), false) else (oc l m, true)) = (orders, seven) ∧ (seven = true → decide (0 < orders) = decide (fw l m ≥ 0) ∧ lc l m ≤ orders) := by
      by_cases c : oc l m > 1000000000000000
      · rw [if_pos c]
        exact ⟨_, _, rfl, fun h => (by cases h)⟩
      · rw [if_neg c]
        exact ⟨_, _, rfl, fun _ => ⟨decide_eq_decide.2 hoci, hle⟩⟩
    obtain ⟨seven, orders, ho, ho2⟩ := hfew
    rw [ho] at e5
    have tf : TF l (m : Int) (decide (fw l m ≥ 0)) seven (lc l m) orders (nrL l 0 (m + 1)) v :=
      ⟨⟨l1, l5⟩, hsr, decide_eq_decide.2 hlci, ho2, hris.rounds, hhas.rounds, ⟨g, hg, g1, g2, v1, v2, v3, v4⟩⟩
    by_cases c : fw l m < 0
    · have d1 : decide (fw l m ≥ 0) = false := decide_eq_false (by omega)
      have d2 : fgB l m = ([], false) := if_pos c
      rw [d2] at e1
      rw [d1] at e2 e3 tf
      exact ⟨[], false, false, true, seven, _, _, _, _, _, ⟨hd, e1.2.rounds, e1.1.rounds, e2.2.rounds, e2.1.rounds, e3.2.rounds, e3.1.rounds, e4.2.rounds, e4.1.rounds, e5.2.rounds, e5.1.rounds, e6.2.rounds, e6.1.rounds, m2.rounds, m1.rounds, same_nil.rounds, sN.rounds, ⟨rfl, fun _ => rfl⟩, fun _ => tf, fun _ => 0, fun _ => 0, fun h => (by cases h)⟩⟩
    · have d1 : decide (fw l m ≥ 0) = true := decide_eq_true (by omega)
      have d2 : fgB l m = (fg l m, true) := if_neg c
      have d3 : mx (fw l m) 0 = fw l m := by unfold mx; rw [if_neg c]
      rw [d2] at e1
      rw [d1] at e2 e3 tf
      rw [d3] at e2
      obtain ⟨_, hG⟩ := fg_good hK m (by omega)
      have hst := fun i (hi : i ≤ l.length) => good_step hK hG (l.length - i) i (by omega)
      obtain ⟨ge1, ge2⟩ := good_ends hK hG
      have k0 := rdI l 0 (by omega)
      have k1 := rdI l (l.length - 1) (by omega)
      have r0 := hK.rng 0 (by omega)
      have r1 := hK.rng (l.length - 1) (by omega)
      have hlast : rd l ((l.length : Int) - 1) = rd l ((l.length - 1 : Nat) : Int) := by congr 1; omega
      have hfirst := hG.1
      have sF := same_ev (fg l m) (by omega)
      have of_ : OF l (m : Int) (fg l m) (fw l m) (dotN (fg l m) l) (cntN (fg l m)) := by
        refine ⟨⟨l1, l5⟩, hfirst, rfl, rfl, fun i hi => by have := (hst i hi).1; omega, fun i hi => by have := (hst i hi).2; omega, fun i hi => ?_, hG.2.2.1, hG.2.2.2, ⟨?_, ge1⟩, ⟨?_, ?_⟩, by omega⟩
        · have h1 := hst i (by omega)
          have h2 := hst (i + 1) hi
          have h3 := hG.2.1 i hi
          have h4 : 0 ≤ rd (fg l m) i * rd l i := Int.mul_nonneg h3 (by rw [rdI l i hi]; have := (hK.rng i hi).1; omega)
          simp only [dotN, cntN] at h2
          exact ⟨h3, by omega, h4, by omega, rfl, rfl⟩
        · exact Int.mul_nonneg (by omega) (by rw [show rd l 0 = l[0] from k0]; omega)
        · rw [hlast, k1]
          have := Int.mul_le_mul (show fw l m ≤ 200 by omega) r1.2 (by omega) (by omega)
          omega
        · rw [hlast]; exact ge2
      exact ⟨fg l m, true, true, true, seven, _, _, _, _, _, ⟨hd, e1.2.rounds, e1.1.rounds, e2.2.rounds, e2.1.rounds, e3.2.rounds, e3.1.rounds, e4.2.rounds, e4.1.rounds, e5.2.rounds, e5.1.rounds, e6.2.rounds, e6.1.rounds, m2.rounds, m1.rounds, sF.rounds, sN.rounds, ⟨rfl, fun _ => rfl⟩, fun _ => tf, _, _, fun _ => of_⟩⟩
theorem a2_true {l1 u : List Int} {st : ByteArray} (hd : ∃ k, spec_DrawGreatestNotReached.f k l1 = some u) (hu : u.length ≤ 6) (hp : ∃ k, spec_DrawParseKinds.f k l1 = some st) (hst : st.size ≤ 100) : ∃ gr th fi tx read se, A2 l1 u gr th fi tx st read se := by
  obtain ⟨b, hb1, hb2, hb3⟩ := areK_ev u (by omega)
  obtain ⟨⟨gr, th⟩, g1, g2, g3⟩ := great_ev hb1 hb2 hb3
  obtain ⟨t1, t2⟩ := text_ev hb1 hb2 hb3
  obtain ⟨⟨read, se⟩, p0, p1, p2, p3, _⟩ := kinds_both st.data.toList (by rw [size_list]; omega)
  rw [mkB_of] at p1 p2 p3
  simp only at g3 p0 p3
  have sR := same_ev read (by omega)
  obtain ⟨⟨tx, fi⟩, htx⟩ : ∃ p, p = kText u b := ⟨_, rfl⟩
  have hfi : fi = b := by
    have := congrArg Prod.snd htx
    simp only at this
    rw [this]
    unfold kText
    cases b <;> rfl
  subst hfi
  rw [← htx] at t1 t2
  have hspec : Ev (fun k => spec_AreKinds.f k u) fi := by
    unfold spec_AreKinds.f
    exact Ev.bind hb1 (Ev.now _)
  refine ⟨gr, th, fi, tx, read, se, ⟨hd, hp, g2.rounds, g1.rounds, t2.rounds, t1.rounds, p2.rounds, p1.rounds, hb2.rounds, hspec.rounds, sR.rounds, fun h => (g3 h).1, fun h => ?_, ?_, ?_⟩⟩
  · obtain ⟨hf, g, hgr, q1, q2, q3, q4⟩ := g3 h
    have hK := hb3 hf
    have k0 := hK.rng 0 (by have := hK.l1; omega)
    have hr0 : rd u 0 = u[0]'(by have := hK.l1; omega) := rdI u 0 (by have := hK.l1; omega)
    refine ⟨⟨hK.l1, hK.l5⟩, by omega, by omega, by rw [hr0]; exact k0, fun i i1 i2 => ?_⟩
    have e : gr + (i : Int) = ((g + i : Nat) : Int) := by omega
    have hm : g + i ≤ 200 := by omega
    obtain ⟨hS, hI⟩ := asked_ev hb1 hb2 (gr + i)
    have hok : (fi && decide (0 ≤ gr + (i : Int) ∧ gr + (i : Int) ≤ 200)) = true := by
      rw [hf, Bool.true_and]
      exact decide_eq_true (by omega)
    rw [hok, e] at hS hI
    have hc := (can_ev hK hm hS hI).2
    have hd2 : decide (fw u (g + i) ≥ 0) = decide (0 < (i : Int)) := decide_eq_decide.2 (by
      by_cases c : i = 0
      · subst c
        rw [Nat.add_zero]
        omega
      · have := q4 (g + i) (by omega) (by omega)
        omega)
    rw [hd2, ← e] at hc
    exact hc.rounds
  · cases fi with
    | false => exact ⟨0, 0, fun h => (by cases h)⟩
    | true =>
      have hK := hb3 rfl
      have ht : tx = kTxt u := congrArg Prod.fst htx
      obtain ⟨k1, hk1⟩ := (back_ev hK hb2).rounds
      obtain ⟨k2, hk2⟩ := (same_ev u (by omega)).rounds
      exact ⟨k1, k2, fun _ => ⟨by rw [ht]; exact hk1, hk2⟩⟩
  · cases se with
    | false => exact ⟨0, fun h => (by cases h)⟩
    | true =>
      obtain ⟨hK, a1, a2, a3⟩ := p3 rfl
      have := (text_ev a1 a2 (fun _ => hK)).2
      obtain ⟨k1, hk1⟩ := this.rounds
      refine ⟨k1, fun _ => ?_⟩
      rw [hk1, a3]
      rfl
theorem big_eq (l0 l1 : List Int) : ∃ b, laws_big.f l0 l1 = some b ∧ (b = false → l0.length ≤ 1048576 ∧ l1.length ≤ 1048576) := by
  unfold laws_big.f
  by_cases h : (l0.length : Int) > 1048576
  · rw [if_pos h]
    exact ⟨true, rfl, fun h' => by cases h'⟩
  · rw [if_neg h]
    refine ⟨_, rfl, fun h' => ?_⟩
    have h2 := of_decide_eq_false h'
    rw [wrap_id (by omega) (by omega)] at h2
    omega
set_option maxHeartbeats 16000000 in
set_option maxRecDepth 1000000 in
theorem law_true (A0 : Option Addr) (c0 : Nat) (l0 : List Int) (A1_ : Option Addr) (c1 : Nat) (l1 : List Int) (w : World) (hr0 : Kd.C (Kd.int .u8) w A0 l0.length l0) (hc0 : l0.length ≤ c0) (hr1 : Kd.C (Kd.int .u8) w A1_ l1.length l1) (hc1 : l1.length ≤ c1)
    (hz0 : ∀ x ∈ l0, (Lit.int .u8 x).wf = true) (hz1 : ∀ x ∈ l1, (Lit.int .u8 x).wf = true) (LDW : LD w) :
    Calls Tryz.prog 3 #[.slice A0 l0.length c0, .slice A1_ l1.length c1] w fun e w' => e = .returned (.bool true) ∧ Below w.heap.size w w' := by
  obtain ⟨b, hb, hbn⟩ := big_eq l0 l1
  cases b
  · obtain ⟨n0, n1⟩ := hbn rfl
    have B0 : Bytes l0 := ⟨fun x hx => bounds_u8 (hz0 x hx), n0⟩
    have B1 : Bytes l1 := ⟨fun x hx => bounds_u8 (hz1 x hx), n1⟩
    obtain ⟨l, s, d1, hl⟩ := draw_first B0
    obtain ⟨first, ok, can, three, seven, few, lists, orders, miss, none_, f1⟩ := a1_true d1 hl
    obtain ⟨u, d2, hu⟩ := draw_great B1
    obtain ⟨st, d3, hst⟩ := draw_parse B1
    obtain ⟨gr, th, fi, tx, read, se, f2⟩ := a2_true d2 hu d3 hst
    exact law.calls A0 c0 l0 A1_ c1 l1 w hr0 hc0 hr1 hc1 LDW hb l s first ok can three seven few lists orders miss none_ f1 u gr th fi tx st read se f2
  · have HR0 := Aside0.mk hr0
    have HC0 := Aside0.mk hc0
    have HR1 := Aside0.mk hr1
    have HC1 := Aside0.mk hc1
    have HG := Aside0.mk hb
    clear hr0 hc0 hr1 hc1 hb hbn hz0 hz1
    go_enter Tryz.func3, Tryz.ntmps3
    go_wp2_with (first
      | (go_at_call 4; (with_reducible refine (laws_big.calls A0 c0 l0 A1_ c1 l1 true _ HR0.out HC0.out HR1.out HC1.out HG.out).mono ?_); rintro e w1 ⟨rfl, ⟨m1, rfl⟩⟩))
    all_goals first
      | (go_ret; exact ⟨rfl, pw_below_drewN (Below.refl w.heap.size w) _⟩)
      | exact ⟨rfl, _, rfl, rfl, pw_below_drewN (Below.refl w.heap.size w) _⟩
end Go.Proofs.YthcbaogbncakdaaGreatDoor.Pure
