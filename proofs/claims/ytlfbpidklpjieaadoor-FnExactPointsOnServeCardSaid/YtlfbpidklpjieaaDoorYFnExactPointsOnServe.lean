/- What the printed functions of FnExactPointsOnServe compute answers true, at every argument of its types. No condition beside the types' own bounds. -/
import Derived.Test.YtlfbpidklpjieaaDoorGServe
import Derived.Test.YtlfbpidklpjieaaDoorQFnExactPointsOnServex
namespace Go.Proofs.YtlfbpidklpjieaaDoor.Pure
open Go.RowKit Go.Proofs.YtlfbpidklpjieaaDoor.QFnExactPointsOnServe Go.Proofs.YtlfbpidklpjieaaDoorW.PrintWords Go.Proofs.YtlfbpidklpjieaaDoorW.PrintLast Go.Proofs.YtlfbpidklpjieaaDoorW.PrintMore
set_option linter.unusedVariables false
set_option linter.unusedSimpArgs false
set_option linter.unusedSectionVars false

theorem ev_some {α : Type} {g : Nat → Option α} {r : α} (h : ∀ k, g (k + 1) = some r) : Ev g r := Ev.step h (Ev.now r)
theorem ev_const {α : Type} {g : Nat → Option α} {r : α} (h : ∀ k, g k = some r) : Ev g r := ⟨0, fun k _ => h k⟩
theorem wrap_id {i : Int} (h0 : -9223372036854775808 ≤ i) (h1 : i ≤ 9223372036854775807) : wrap64 i = i := by unfold wrap64; omega

theorem b97 (c : UInt8) : ((c.toNat : Int) = 97) ↔ c = 97 := by
  constructor
  · intro h
    apply UInt8.toNat_inj.1
    show c.toNat = 97
    omega
  · rintro rfl
    rfl
theorem b98 (c : UInt8) : ((c.toNat : Int) = 98) ↔ c = 98 := by
  constructor
  · intro h
    apply UInt8.toNat_inj.1
    show c.toNat = 98
    omega
  · rintro rfl
    rfl
theorem len_data (s : ByteArray) : s.data.toList.length = s.size := by simp
theorem bt_nat (s : ByteArray) (n : Nat) (h : n < s.data.toList.length) : bt s (n : Int) = ((s.data.toList[n]).toNat : Int) := by
  have h2 : n < s.size := by rw [len_data] at h; exact h
  unfold bt
  rw [dif_pos (by simpa using h2)]
  rfl
def pointsB (s : ByteArray) : Bool := decide (s.size ≤ 100) && s.data.toList.all abB
theorem raPoints_l0 (s : ByteArray) (hs : s.size ≤ 1048576) (d : Nat) : ∀ i : Nat, i + d = s.size → Ev (fun k => spec_raPoints.l0 k s (i : Int)) ((s.data.toList.drop i).all abB) := by
  induction d with
  | zero =>
    intro i hi
    refine ev_some fun k => ?_
    simp only [spec_raPoints.l0]
    rw [if_neg (by omega), List.drop_of_length_le (by rw [len_data]; omega)]
    rfl
  | succ d ih =>
    intro i hi
    have hlt : i < s.data.toList.length := by rw [len_data]; omega
    have hn := ih (i + 1) (by omega)
    have hw : wrap64 ((i : Int) + 1) = ((i + 1 : Nat) : Int) := by rw [wrap_id (by omega) (by omega)]; omega
    have hbt := bt_nat s i hlt
    rw [List.drop_eq_getElem_cons hlt, List.all_cons]
    generalize s.data.toList[i] = c at hbt ⊢
    by_cases c1 : c = 97
    · have : abB c = true := by rw [c1]; rfl
      rw [this, Bool.true_and]
      refine Ev.step (fun k => ?_) hn
      simp only [spec_raPoints.l0]
      rw [if_pos (by omega), if_pos (by omega), hbt, if_pos ((b97 _).2 c1), hw]
    · by_cases c2 : c = 98
      · have : abB c = true := by rw [c2]; rfl
        rw [this, Bool.true_and]
        refine Ev.step (fun k => ?_) hn
        simp only [spec_raPoints.l0]
        rw [if_pos (by omega), if_pos (by omega), hbt, if_neg (fun h => c1 ((b97 _).1 h)), if_pos ((b98 _).2 c2), hw]
      · have : abB c = false := by simp [abB, c1, c2]
        rw [this, Bool.false_and]
        refine ev_some fun k => ?_
        simp only [spec_raPoints.l0]
        rw [if_pos (by omega), if_pos (by omega), hbt, if_neg (fun h => c1 ((b97 _).1 h)), if_neg (fun h => c2 ((b98 _).1 h))]
theorem raPoints_ev (s : ByteArray) (hs : s.size ≤ 1048576) : Ev (fun k => spec_raPoints.f k s) (pointsB s) := by
  unfold spec_raPoints.f pointsB
  by_cases h : (s.size : Int) > 100
  · simp only [if_pos h]
    have : ¬ s.size ≤ 100 := by omega
    simp only [this, decide_false, Bool.false_and]
    exact Ev.now _
  · simp only [if_neg h]
    have : s.size ≤ 100 := by omega
    simp only [this, decide_true, Bool.true_and]
    have := raPoints_l0 s hs s.size 0 (by omega)
    simpa using this
theorem isPoints_eq (s : ByteArray) : impl_isPoints.f s 100 = some (pointsB s) := by
  unfold impl_isPoints.f pointsB
  by_cases h : (s.size : Int) ≤ 100
  · rw [if_pos h, if_pos (by omega)]
    have : s.size ≤ 100 := by omega
    simp [this]
  · rw [if_neg h]
    have : ¬ s.size ≤ 100 := by omega
    simp [this]

theorem str_snoc97 (xs : List Int) : strOfNums xs ++ (⟨#[97]⟩ : ByteArray) = strOfNums (xs ++ [97]) := by
  apply ByteArray.ext
  simp [strOfNums]
theorem str_snoc98 (xs : List Int) : strOfNums xs ++ (⟨#[98]⟩ : ByteArray) = strOfNums (xs ++ [98]) := by
  apply ByteArray.ext
  simp [strOfNums]
theorem ab_cut0 : (⟨#[97, 98]⟩ : ByteArray).extract 0 1 = ⟨#[97]⟩ := by
  apply ByteArray.ext
  rw [ByteArray.data_extract]
  rfl
theorem ab_cut1 : (⟨#[97, 98]⟩ : ByteArray).extract 1 2 = ⟨#[98]⟩ := by
  apply ByteArray.ext
  rw [ByteArray.data_extract]
  rfl
def srv (t : Int) (i : Nat) : Int := if ((i : Int) / t) % 2 = 0 then 97 else 98
def srvL (t : Int) (n : Nat) : List Int := (List.range n).map (srv t)
theorem srvL_succ (t : Int) (n : Nat) : srvL t (n + 1) = srvL t n ++ [srv t n] := by simp [srvL, List.range_succ]
theorem srvL_len (t : Int) (n : Nat) : (srvL t n).length = n := by simp [srvL]
theorem str_size (xs : List Int) : (strOfNums xs).size = xs.length := by
  show (strOfNums xs).data.size = _
  simp [strOfNums]
theorem turn_div (t : Int) (ht : 1 ≤ t ∧ t ≤ 10) (i : Nat) (hi : i ≤ 1048576) : wrap64 (Int.tdiv (i : Int) t) = (i : Int) / t ∧ (Int.tmod ((i : Int) / t) 2 = 0 ∨ Int.tmod ((i : Int) / t) 2 = 1) ∧ (Int.tmod ((i : Int) / t) 2 = 0 ↔ ((i : Int) / t) % 2 = 0) := by
  have h0 : (0 : Int) ≤ (i : Int) / t := Int.ediv_nonneg (by omega) (by omega)
  have h1 : (i : Int) / t ≤ i := Int.ediv_le_self _ (by omega)
  have e : Int.tdiv (i : Int) t = (i : Int) / t := Int.tdiv_eq_ediv_of_nonneg (by omega)
  have e2 : Int.tmod ((i : Int) / t) 2 = ((i : Int) / t) % 2 := Int.tmod_eq_emod_of_nonneg h0
  refine ⟨by rw [e, wrap_id (by omega) (by omega)], ?_, by rw [e2]⟩
  rw [e2]
  omega

theorem raServers_l0 (s : ByteArray) (hs : s.size ≤ 1048576) (t : Int) (ht : 1 ≤ t ∧ t ≤ 10) (d : Nat) : ∀ i : Nat, i + d = s.size → Ev (fun k => spec_raServers.l0 k s t (strOfNums (srvL t i)) (i : Int)) (strOfNums (srvL t s.size)) := by
  induction d with
  | zero =>
    intro i hi
    obtain rfl : i = s.size := by omega
    refine ev_some fun k => ?_
    simp only [spec_raServers.l0]
    rw [if_neg (by omega)]
  | succ d ih =>
    intro i hi
    have hn := ih (i + 1) (by omega)
    obtain ⟨e1, e2, e3⟩ := turn_div t ht i (by omega)
    have hwi : wrap64 ((i : Int) + 1) = ((i + 1 : Nat) : Int) := by rw [wrap_id (by omega) (by omega)]; omega
    have hsz : (strOfNums (srvL t i)).size = i := by rw [str_size, srvL_len]
    rw [srvL_succ] at hn
    refine Ev.step (fun k => ?_) hn
    simp only [spec_raServers.l0]
    rw [if_pos (by omega), if_neg (by omega), e1, hwi]
    rcases e2 with h | h
    · have hv : srv t i = 97 := by unfold srv; rw [if_pos (e3.1 h)]
      rw [h, wrap_id (i := (0 : Int) + 1) (by omega) (by omega), if_pos (by omega), if_pos (by omega), if_pos (by omega), hv]
      rw [show ((0 : Int).toNat) = 0 from rfl, show (((0 : Int) + 1).toNat) = 1 from rfl, ab_cut0, if_pos (by rw [hsz]; show i + 1 ≤ _; omega), str_snoc97]
    · have hv : srv t i = 98 := by unfold srv; rw [if_neg (fun h' => by have := e3.2 h'; omega)]
      rw [h, wrap_id (i := (1 : Int) + 1) (by omega) (by omega), if_pos (by omega), if_pos (by omega), if_pos (by omega), hv]
      rw [show ((1 : Int).toNat) = 1 from rfl, show (((1 : Int) + 1).toNat) = 2 from rfl, ab_cut1, if_pos (by rw [hsz]; show i + 1 ≤ _; omega), str_snoc98]
theorem raServers_ev (s : ByteArray) (hs : s.size ≤ 1048576) (t : Int) (ht : 1 ≤ t ∧ t ≤ 10) : Ev (fun k => spec_raServers.f k s t) (strOfNums (srvL t s.size)) := by
  have := raServers_l0 s hs t ht s.size 0 (by omega)
  simpa [spec_raServers.f, srvL, strOfNums] using this

theorem servers_l0 (n : Nat) (hs : n ≤ 1048576) (t : Int) (ht : 1 ≤ t ∧ t ≤ 10) (d : Nat) : ∀ i : Nat, i + d = n → Ev (fun k => Go.Proofs.YtlfbpidklpjieaaDoor.QFnExactServersOf.impl_ServersOf.l0 k t (srvL t i) (n : Int) (i : Int)) (strOfNums (srvL t n), true) := by
  induction d with
  | zero =>
    intro i hi
    obtain rfl : i = n := by omega
    refine ev_some fun k => ?_
    simp only [Go.Proofs.YtlfbpidklpjieaaDoor.QFnExactServersOf.impl_ServersOf.l0]
    rw [if_neg (by omega)]
  | succ d ih =>
    intro i hi
    have hn := ih (i + 1) (by omega)
    obtain ⟨e1, e2, e3⟩ := turn_div t ht i (by omega)
    have hwi : wrap64 ((i : Int) + 1) = ((i + 1 : Nat) : Int) := by rw [wrap_id (by omega) (by omega)]; omega
    rw [srvL_succ] at hn
    refine Ev.step (fun k => ?_) hn
    simp only [Go.Proofs.YtlfbpidklpjieaaDoor.QFnExactServersOf.impl_ServersOf.l0]
    rw [if_pos (by omega), if_neg (by omega), e1, hwi]
    rcases e2 with h | h
    · have hv : srv t i = 97 := by unfold srv; rw [if_pos (e3.1 h)]
      rw [h, if_pos (by omega), if_pos (by omega), if_pos (by rw [srvL_len]; omega), hv]
      rfl
    · have hv : srv t i = 98 := by unfold srv; rw [if_neg (fun h' => by have := e3.2 h'; omega)]
      rw [h, if_pos (by omega), if_pos (by omega), if_pos (by rw [srvL_len]; omega), hv]
      rfl

theorem within_eqS (a b c : Int) : Go.Proofs.YtlfbpidklpjieaaDoor.QFnExactServersOf.impl_within.f a b c = some (decide (b ≤ a ∧ a ≤ c)) := by
  unfold Go.Proofs.YtlfbpidklpjieaaDoor.QFnExactServersOf.impl_within.f
  by_cases h : b ≤ a
  · rw [if_pos h]
    simp [h]
  · rw [if_neg h]
    simp [h]
theorem l1In_eq (a b c : Int) : spec_l1In.f a b c = some (decide (b ≤ a ∧ a ≤ c)) := by
  unfold spec_l1In.f
  by_cases h : a ≥ b
  · rw [if_pos h]
    have h2 : b ≤ a := h
    simp [h2]
  · rw [if_neg h]
    have h2 : ¬ b ≤ a := h
    simp [h2]
theorem pos_l0 (s v : ByteArray) (hs : s.size ≤ 1048576) (hz : v.size = s.size) (hab : s.data.toList.all abB = true) (d : Nat) : ∀ (i : Nat) (a b : Int), i + d = s.size → 0 ≤ a ∧ a ≤ i → 0 ≤ b ∧ b ≤ i →
    Ev (fun k => spec_PointsOnServe.l0 k s a b v (i : Int)) (a + served 97 (s.data.toList.drop i) (v.data.toList.drop i), b + served 98 (s.data.toList.drop i) (v.data.toList.drop i), true) := by
  induction d with
  | zero =>
    intro i a b hi _ _
    refine ev_some fun k => ?_
    simp only [spec_PointsOnServe.l0]
    rw [if_neg (by omega), List.drop_of_length_le (by rw [len_data]; omega)]
    simp [served]
  | succ d ih =>
    intro i a b hi h0 h1
    have hlt : i < s.data.toList.length := by rw [len_data]; omega
    have hlt2 : i < v.data.toList.length := by rw [len_data]; omega
    have hwi : wrap64 ((i : Int) + 1) = ((i + 1 : Nat) : Int) := by rw [wrap_id (by omega) (by omega)]; omega
    have hwa : wrap64 (a + 1) = a + 1 := wrap_id (by omega) (by omega)
    have hwb : wrap64 (b + 1) = b + 1 := wrap_id (by omega) (by omega)
    have hb1 := bt_nat s i hlt
    have hb2 := bt_nat v i hlt2
    have hx : abB (s.data.toList[i]) = true := List.all_eq_true.1 hab _ (List.getElem_mem hlt)
    rw [List.drop_eq_getElem_cons hlt, List.drop_eq_getElem_cons hlt2]
    generalize s.data.toList[i] = x at hb1 hx ⊢
    generalize v.data.toList[i] = y at hb2 ⊢
    by_cases he : x = y
    · subst he
      by_cases h97 : x = 97
      · have hn := ih (i + 1) (a + 1) b (by omega) (by omega) (by omega)
        have e1 : a + served 97 (x :: s.data.toList.drop (i + 1)) (x :: v.data.toList.drop (i + 1)) = a + 1 + served 97 (s.data.toList.drop (i + 1)) (v.data.toList.drop (i + 1)) := by
          simp only [served]
          rw [if_pos ⟨trivial, h97⟩]
          omega
        have e2 : b + served 98 (x :: s.data.toList.drop (i + 1)) (x :: v.data.toList.drop (i + 1)) = b + served 98 (s.data.toList.drop (i + 1)) (v.data.toList.drop (i + 1)) := by
          simp only [served]
          rw [if_neg (fun h => by rw [h97] at h; exact absurd h.2 (by decide))]
          omega
        rw [e1, e2]
        refine Ev.step (fun k => ?_) hn
        simp only [spec_PointsOnServe.l0, hb1, hb2, hwi, hwa]
        rw [if_pos (by omega), if_pos (by omega), if_pos (by omega), if_pos trivial, if_pos ((b97 _).2 h97)]
      · have h98 : x = 98 := by
          unfold abB at hx
          simp only [Bool.or_eq_true, beq_iff_eq] at hx
          exact hx.resolve_left h97
        have hn := ih (i + 1) a (b + 1) (by omega) (by omega) (by omega)
        have e1 : a + served 97 (x :: s.data.toList.drop (i + 1)) (x :: v.data.toList.drop (i + 1)) = a + served 97 (s.data.toList.drop (i + 1)) (v.data.toList.drop (i + 1)) := by
          simp only [served]
          rw [if_neg (fun h => h97 h.2)]
          omega
        have e2 : b + served 98 (x :: s.data.toList.drop (i + 1)) (x :: v.data.toList.drop (i + 1)) = b + 1 + served 98 (s.data.toList.drop (i + 1)) (v.data.toList.drop (i + 1)) := by
          simp only [served]
          rw [if_pos ⟨trivial, h98⟩]
          omega
        rw [e1, e2]
        refine Ev.step (fun k => ?_) hn
        simp only [spec_PointsOnServe.l0, hb1, hb2, hwi, hwb]
        rw [if_pos (by omega), if_pos (by omega), if_pos (by omega), if_pos trivial, if_neg (fun h => h97 ((b97 _).1 h))]
    · have hn := ih (i + 1) a b (by omega) (by omega) (by omega)
      have e1 : a + served 97 (x :: s.data.toList.drop (i + 1)) (y :: v.data.toList.drop (i + 1)) = a + served 97 (s.data.toList.drop (i + 1)) (v.data.toList.drop (i + 1)) := by
        simp only [served]
        rw [if_neg (fun h => he h.1)]
        omega
      have e2 : b + served 98 (x :: s.data.toList.drop (i + 1)) (y :: v.data.toList.drop (i + 1)) = b + served 98 (s.data.toList.drop (i + 1)) (v.data.toList.drop (i + 1)) := by
        simp only [served]
        rw [if_neg (fun h => he h.1)]
        omega
      have hne : ¬ ((x.toNat : Int) = (y.toNat : Int)) := fun h => he (UInt8.toNat_inj.1 (by omega))
      rw [e1, e2]
      refine Ev.step (fun k => ?_) hn
      simp only [spec_PointsOnServe.l0, hb1, hb2, hwi]
      rw [if_pos (by omega), if_pos (by omega), if_pos (by omega), if_neg hne]
theorem pointsB_all {s : ByteArray} (h : pointsB s = true) : s.data.toList.all abB = true := by
  unfold pointsB at h
  rw [Bool.and_eq_true] at h
  exact h.2
theorem serve_both (s : ByteArray) (hs : s.size ≤ 1048576) (t : Int) : ∃ v : Int × Int × Bool, Ev (fun k => spec_PointsOnServe.f k s t) v ∧ Ev (fun k => impl_PointsOnServe.f k s t) v := by
  unfold spec_PointsOnServe.f impl_PointsOnServe.f
  have hp := raPoints_ev s hs
  have no1 : Ev (fun k => spec_PointsOnServe.j0 k s t true) (0, 0, false) := ev_some fun k => by simp [spec_PointsOnServe.j0]
  have no2 : Ev (fun k => Go.Proofs.YtlfbpidklpjieaaDoor.QFnExactServersOf.impl_ServersOf.j0 k s t true) ((⟨#[]⟩ : ByteArray), false) := ev_some fun k => by simp [Go.Proofs.YtlfbpidklpjieaaDoor.QFnExactServersOf.impl_ServersOf.j0]
  cases hb : pointsB s
  · rw [hb] at hp
    refine ⟨(0, 0, false), Ev.bind hp ?_, Ev.bind (show Ev (fun k => Go.Proofs.YtlfbpidklpjieaaDoor.QFnExactServersOf.impl_ServersOf.f k s t) ((⟨#[]⟩ : ByteArray), false) from ?_) ?_⟩
    · simp only [Bool.false_eq_true, if_false]
      exact no1
    · unfold Go.Proofs.YtlfbpidklpjieaaDoor.QFnExactServersOf.impl_ServersOf.f
      rw [isPoints_eq, hb]
      exact no2
    · exact Ev.now _
  · rw [hb] at hp
    cases ht : decide (1 ≤ t ∧ t ≤ 10)
    · refine ⟨(0, 0, false), Ev.bind hp ?_, Ev.bind (show Ev (fun k => Go.Proofs.YtlfbpidklpjieaaDoor.QFnExactServersOf.impl_ServersOf.f k s t) ((⟨#[]⟩ : ByteArray), false) from ?_) ?_⟩
      · simp only [if_true, l1In_eq, ht, Option.bind_some, Bool.not_false]
        exact no1
      · unfold Go.Proofs.YtlfbpidklpjieaaDoor.QFnExactServersOf.impl_ServersOf.f
        rw [isPoints_eq, hb]
        simp only [Option.bind_some, if_true, within_eqS, ht, Bool.not_false]
        exact no2
      · exact Ev.now _
    · have ht2 := of_decide_eq_true ht
      have hz : (strOfNums (srvL t s.size)).size = s.size := by rw [str_size, srvL_len]
      refine ⟨(served 97 s.data.toList (strOfNums (srvL t s.size)).data.toList, served 98 s.data.toList (strOfNums (srvL t s.size)).data.toList, true), Ev.bind hp ?_, Ev.bind (show Ev (fun k => Go.Proofs.YtlfbpidklpjieaaDoor.QFnExactServersOf.impl_ServersOf.f k s t) (strOfNums (srvL t s.size), true) from ?_) ?_⟩
      · simp only [if_true, l1In_eq, ht, Option.bind_some, Bool.not_true]
        refine Ev.step (f := fun k => (spec_raServers.f k s t).bind fun t103 => (spec_PointsOnServe.l0 k s 0 0 t103 0)) (fun k => by simp [spec_PointsOnServe.j0]) ?_
        refine Ev.bind (raServers_ev s hs t ht2) ?_
        have := pos_l0 s (strOfNums (srvL t s.size)) hs hz (pointsB_all hb) s.size 0 0 0 (by omega) (by omega) (by omega)
        simpa using this
      · unfold Go.Proofs.YtlfbpidklpjieaaDoor.QFnExactServersOf.impl_ServersOf.f
        rw [isPoints_eq, hb]
        simp only [Option.bind_some, if_true, within_eqS, ht, Bool.not_true]
        refine Ev.step (f := fun k => Go.Proofs.YtlfbpidklpjieaaDoor.QFnExactServersOf.impl_ServersOf.l0 k t (([] : List Int)) (s.size : Int) 0) (fun k => by simp [Go.Proofs.YtlfbpidklpjieaaDoor.QFnExactServersOf.impl_ServersOf.j0]) ?_
        have := servers_l0 s.size hs t ht2 s.size 0 (by omega)
        simpa [srvL] using this
      · simp only [if_true]
        rw [if_pos ⟨hs, hz, pointsB_all hb⟩]
        exact Ev.now _

theorem FnExactPointsOnServe : ∀ (a0 : ByteArray) (a1 : Int), a0.size ≤ 140737488351232 → (Lit.int .i64 a1).wf = true → ∃ k, laws_FnExactPointsOnServe.f k a0 a1 = some true := by
  intro s t _ _
  refine Ev.rounds ?_
  unfold laws_FnExactPointsOnServe.f
  by_cases hs : (s.size : Int) > 1048576
  · simp only [if_pos hs]
    exact Ev.now _
  · simp only [if_neg hs]
    obtain ⟨v, hv1, hv2⟩ := serve_both s (by omega) t
    refine Ev.bind hv1 ?_
    refine Ev.bind hv2 ?_
    simp only [bne_self_eq_false, Bool.false_eq_true, if_false, if_true]
    exact Ev.now _

end Go.Proofs.YtlfbpidklpjieaaDoor.Pure
