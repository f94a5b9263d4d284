/- What the printed functions of FnExactServersOf compute answers true, at every argument of its types. No condition beside the types' own bounds. -/
import Derived.Test.YtlfbpidklpjieaaDoorGPoints
import Derived.Test.YtlfbpidklpjieaaDoorQFnExactServersOfx
namespace Go.Proofs.YtlfbpidklpjieaaDoor.Pure
open Go.RowKit Go.Proofs.YtlfbpidklpjieaaDoor.QFnExactServersOf Go.Proofs.YtlfbpidklpjieaaDoorW.PrintWords Go.Proofs.YtlfbpidklpjieaaDoorW.PrintLast Go.Proofs.YtlfbpidklpjieaaDoorW.PrintMore
set_option linter.unusedVariables false
set_option linter.unusedSimpArgs false
set_option linter.unusedSectionVars false

theorem ev_some {α : Type} {g : Nat → Option α} {r : α} (h : ∀ k, g (k + 1) = some r) : Ev g r := Ev.step h (Ev.now r)
theorem ev_const {α : Type} {g : Nat → Option α} {r : α} (h : ∀ k, g k = some r) : Ev g r := ⟨0, fun k _ => h k⟩
theorem wrap_id {i : Int} (h0 : -9223372036854775808 ≤ i) (h1 : i ≤ 9223372036854775807) : wrap64 i = i := by unfold wrap64; omega

theorem l1In_eq (a b c : Int) : spec_l1In.f a b c = some (decide (b ≤ a ∧ a ≤ c)) := by
  unfold spec_l1In.f
  by_cases h : a ≥ b
  · rw [if_pos h]
    have h2 : b ≤ a := h
    simp [h2]
  · rw [if_neg h]
    have h2 : ¬ b ≤ a := h
    simp [h2]
theorem within_eq (a b c : Int) : impl_within.f a b c = some (decide (b ≤ a ∧ a ≤ c)) := by
  unfold impl_within.f
  by_cases h : b ≤ a
  · rw [if_pos h]
    simp [h]
  · rw [if_neg h]
    simp [h]

theorem b97 (c : UInt8) : ((c.toNat : Int) = 97) ↔ c = 97 := by
  constructor
  · intro h
    apply UInt8.toNat_inj.1
    show c.toNat = 97
    omega
  · rintro rfl
    rfl
theorem b98 (c : UInt8) : ((c.toNat : Int) = 98) ↔ c = 98 := by
  constructor
  · intro h
    apply UInt8.toNat_inj.1
    show c.toNat = 98
    omega
  · rintro rfl
    rfl
theorem len_data (s : ByteArray) : s.data.toList.length = s.size := by simp
theorem bt_nat (s : ByteArray) (n : Nat) (h : n < s.data.toList.length) : bt s (n : Int) = ((s.data.toList[n]).toNat : Int) := by
  have h2 : n < s.size := by rw [len_data] at h; exact h
  unfold bt
  rw [dif_pos (by simpa using h2)]
  rfl
def pointsB (s : ByteArray) : Bool := decide (s.size ≤ 100) && s.data.toList.all abB
theorem raPoints_l0 (s : ByteArray) (hs : s.size ≤ 1048576) (d : Nat) : ∀ i : Nat, i + d = s.size → Ev (fun k => spec_raPoints.l0 k s (i : Int)) ((s.data.toList.drop i).all abB) := by
  induction d with
  | zero =>
    intro i hi
    refine ev_some fun k => ?_
    simp only [spec_raPoints.l0]
    rw [if_neg (by omega), List.drop_of_length_le (by rw [len_data]; omega)]
    rfl
  | succ d ih =>
    intro i hi
    have hlt : i < s.data.toList.length := by rw [len_data]; omega
    have hn := ih (i + 1) (by omega)
    have hw : wrap64 ((i : Int) + 1) = ((i + 1 : Nat) : Int) := by rw [wrap_id (by omega) (by omega)]; omega
    have hbt := bt_nat s i hlt
    rw [List.drop_eq_getElem_cons hlt, List.all_cons]
    generalize s.data.toList[i] = c at hbt ⊢
    by_cases c1 : c = 97
    · have : abB c = true := by rw [c1]; rfl
      rw [this, Bool.true_and]
      refine Ev.step (fun k => ?_) hn
      simp only [spec_raPoints.l0]
      rw [if_pos (by omega), if_pos (by omega), hbt, if_pos ((b97 _).2 c1), hw]
    · by_cases c2 : c = 98
      · have : abB c = true := by rw [c2]; rfl
        rw [this, Bool.true_and]
        refine Ev.step (fun k => ?_) hn
        simp only [spec_raPoints.l0]
        rw [if_pos (by omega), if_pos (by omega), hbt, if_neg (fun h => c1 ((b97 _).1 h)), if_pos ((b98 _).2 c2), hw]
      · have : abB c = false := by simp [abB, c1, c2]
        rw [this, Bool.false_and]
        refine ev_some fun k => ?_
        simp only [spec_raPoints.l0]
        rw [if_pos (by omega), if_pos (by omega), hbt, if_neg (fun h => c1 ((b97 _).1 h)), if_neg (fun h => c2 ((b98 _).1 h))]
theorem raPoints_ev (s : ByteArray) (hs : s.size ≤ 1048576) : Ev (fun k => spec_raPoints.f k s) (pointsB s) := by
  unfold spec_raPoints.f pointsB
  by_cases h : (s.size : Int) > 100
  · simp only [if_pos h]
    have : ¬ s.size ≤ 100 := by omega
    simp only [this, decide_false, Bool.false_and]
    exact Ev.now _
  · simp only [if_neg h]
    have : s.size ≤ 100 := by omega
    simp only [this, decide_true, Bool.true_and]
    have := raPoints_l0 s hs s.size 0 (by omega)
    simpa using this
theorem isPoints_eq (s : ByteArray) : impl_isPoints.f s 100 = some (pointsB s) := by
  unfold impl_isPoints.f pointsB
  by_cases h : (s.size : Int) ≤ 100
  · rw [if_pos h, if_pos (by omega)]
    have : s.size ≤ 100 := by omega
    simp [this]
  · rw [if_neg h]
    have : ¬ s.size ≤ 100 := by omega
    simp [this]

theorem str_snoc97 (xs : List Int) : strOfNums xs ++ (⟨#[97]⟩ : ByteArray) = strOfNums (xs ++ [97]) := by
  apply ByteArray.ext
  simp [strOfNums]
theorem str_snoc98 (xs : List Int) : strOfNums xs ++ (⟨#[98]⟩ : ByteArray) = strOfNums (xs ++ [98]) := by
  apply ByteArray.ext
  simp [strOfNums]
theorem ab_cut0 : (⟨#[97, 98]⟩ : ByteArray).extract 0 1 = ⟨#[97]⟩ := by
  apply ByteArray.ext
  rw [ByteArray.data_extract]
  rfl
theorem ab_cut1 : (⟨#[97, 98]⟩ : ByteArray).extract 1 2 = ⟨#[98]⟩ := by
  apply ByteArray.ext
  rw [ByteArray.data_extract]
  rfl
def srv (t : Int) (i : Nat) : Int := if ((i : Int) / t) % 2 = 0 then 97 else 98
def srvL (t : Int) (n : Nat) : List Int := (List.range n).map (srv t)
theorem srvL_succ (t : Int) (n : Nat) : srvL t (n + 1) = srvL t n ++ [srv t n] := by simp [srvL, List.range_succ]
theorem srvL_len (t : Int) (n : Nat) : (srvL t n).length = n := by simp [srvL]
theorem str_size (xs : List Int) : (strOfNums xs).size = xs.length := by
  show (strOfNums xs).data.size = _
  simp [strOfNums]
theorem turn_div (t : Int) (ht : 1 ≤ t ∧ t ≤ 10) (i : Nat) (hi : i ≤ 1048576) : wrap64 (Int.tdiv (i : Int) t) = (i : Int) / t ∧ (Int.tmod ((i : Int) / t) 2 = 0 ∨ Int.tmod ((i : Int) / t) 2 = 1) ∧ (Int.tmod ((i : Int) / t) 2 = 0 ↔ ((i : Int) / t) % 2 = 0) := by
  have h0 : (0 : Int) ≤ (i : Int) / t := Int.ediv_nonneg (by omega) (by omega)
  have h1 : (i : Int) / t ≤ i := Int.ediv_le_self _ (by omega)
  have e : Int.tdiv (i : Int) t = (i : Int) / t := Int.tdiv_eq_ediv_of_nonneg (by omega)
  have e2 : Int.tmod ((i : Int) / t) 2 = ((i : Int) / t) % 2 := Int.tmod_eq_emod_of_nonneg h0
  refine ⟨by rw [e, wrap_id (by omega) (by omega)], ?_, by rw [e2]⟩
  rw [e2]
  omega
theorem raServers_l0 (s : ByteArray) (hs : s.size ≤ 1048576) (t : Int) (ht : 1 ≤ t ∧ t ≤ 10) (d : Nat) : ∀ i : Nat, i + d = s.size → Ev (fun k => spec_raServers.l0 k s t (strOfNums (srvL t i)) (i : Int)) (strOfNums (srvL t s.size)) := by
  induction d with
  | zero =>
    intro i hi
    obtain rfl : i = s.size := by omega
    refine ev_some fun k => ?_
    simp only [spec_raServers.l0]
    rw [if_neg (by omega)]
  | succ d ih =>
    intro i hi
    have hn := ih (i + 1) (by omega)
    obtain ⟨e1, e2, e3⟩ := turn_div t ht i (by omega)
    have hwi : wrap64 ((i : Int) + 1) = ((i + 1 : Nat) : Int) := by rw [wrap_id (by omega) (by omega)]; omega
    have hsz : (strOfNums (srvL t i)).size = i := by rw [str_size, srvL_len]
    rw [srvL_succ] at hn
    refine Ev.step (fun k => ?_) hn
    simp only [spec_raServers.l0]
    rw [if_pos (by omega), if_neg (by omega), e1, hwi]
    rcases e2 with h | h
    · have hv : srv t i = 97 := by unfold srv; rw [if_pos (e3.1 h)]
      rw [h, wrap_id (i := (0 : Int) + 1) (by omega) (by omega), if_pos (by omega), if_pos (by omega), if_pos (by omega), hv]
      rw [show ((0 : Int).toNat) = 0 from rfl, show (((0 : Int) + 1).toNat) = 1 from rfl, ab_cut0, if_pos (by rw [hsz]; show i + 1 ≤ _; omega), str_snoc97]
    · have hv : srv t i = 98 := by unfold srv; rw [if_neg (fun h' => by have := e3.2 h'; omega)]
      rw [h, wrap_id (i := (1 : Int) + 1) (by omega) (by omega), if_pos (by omega), if_pos (by omega), if_pos (by omega), hv]
      rw [show ((1 : Int).toNat) = 1 from rfl, show (((1 : Int) + 1).toNat) = 2 from rfl, ab_cut1, if_pos (by rw [hsz]; show i + 1 ≤ _; omega), str_snoc98]
theorem raServers_ev (s : ByteArray) (hs : s.size ≤ 1048576) (t : Int) (ht : 1 ≤ t ∧ t ≤ 10) : Ev (fun k => spec_raServers.f k s t) (strOfNums (srvL t s.size)) := by
  have := raServers_l0 s hs t ht s.size 0 (by omega)
  simpa [spec_raServers.f, srvL, strOfNums] using this
theorem servers_l0 (n : Nat) (hs : n ≤ 1048576) (t : Int) (ht : 1 ≤ t ∧ t ≤ 10) (d : Nat) : ∀ i : Nat, i + d = n → Ev (fun k => impl_ServersOf.l0 k t (srvL t i) (n : Int) (i : Int)) (strOfNums (srvL t n), true) := by
  induction d with
  | zero =>
    intro i hi
    obtain rfl : i = n := by omega
    refine ev_some fun k => ?_
    simp only [impl_ServersOf.l0]
    rw [if_neg (by omega)]
  | succ d ih =>
    intro i hi
    have hn := ih (i + 1) (by omega)
    obtain ⟨e1, e2, e3⟩ := turn_div t ht i (by omega)
    have hwi : wrap64 ((i : Int) + 1) = ((i + 1 : Nat) : Int) := by rw [wrap_id (by omega) (by omega)]; omega
    rw [srvL_succ] at hn
    refine Ev.step (fun k => ?_) hn
    simp only [impl_ServersOf.l0]
    rw [if_pos (by omega), if_neg (by omega), e1, hwi]
    rcases e2 with h | h
    · have hv : srv t i = 97 := by unfold srv; rw [if_pos (e3.1 h)]
      rw [h, if_pos (by omega), if_pos (by omega), if_pos (by rw [srvL_len]; omega), hv]
      rfl
    · have hv : srv t i = 98 := by unfold srv; rw [if_neg (fun h' => by have := e3.2 h'; omega)]
      rw [h, if_pos (by omega), if_pos (by omega), if_pos (by rw [srvL_len]; omega), hv]
      rfl
theorem servers_both (s : ByteArray) (hs : s.size ≤ 1048576) (t : Int) : ∃ v : ByteArray × Bool, Ev (fun k => spec_ServersOf.f k s t) v ∧ Ev (fun k => impl_ServersOf.f k s t) v ∧ (v = ((⟨#[]⟩ : ByteArray), false) ∧ (pointsB s && decide (1 ≤ t ∧ t ≤ 10)) = false ∨ v = (strOfNums (srvL t s.size), true) ∧ (pointsB s && decide (1 ≤ t ∧ t ≤ 10)) = true) := by
  unfold spec_ServersOf.f impl_ServersOf.f
  rw [isPoints_eq]
  simp only [Option.bind_some]
  have hp := raPoints_ev s hs
  cases hb : pointsB s
  · rw [hb] at hp
    refine ⟨((⟨#[]⟩ : ByteArray), false), Ev.bind hp ?_, ?_, Or.inl ⟨rfl, rfl⟩⟩
    · simp only [Bool.false_eq_true, if_false]
      exact Ev.now _
    · simp only [Bool.false_eq_true, if_false]
      exact ev_some fun k => by simp [impl_ServersOf.j0]
  · rw [hb] at hp
    cases ht : decide (1 ≤ t ∧ t ≤ 10)
    · refine ⟨((⟨#[]⟩ : ByteArray), false), Ev.bind hp ?_, ?_, Or.inl ⟨rfl, rfl⟩⟩
      · simp only [if_true, l1In_eq, ht, Option.bind_some, Bool.false_eq_true, if_false]
        exact Ev.now _
      · simp only [if_true, within_eq, ht, Option.bind_some, Bool.not_false]
        exact ev_some fun k => by simp [impl_ServersOf.j0]
    · have ht2 := of_decide_eq_true ht
      refine ⟨(strOfNums (srvL t s.size), true), Ev.bind hp ?_, ?_, Or.inr ⟨rfl, rfl⟩⟩
      · simp only [if_true, l1In_eq, ht, Option.bind_some]
        exact Ev.bind (f := fun _ t103 => some (t103, true)) (raServers_ev s hs t ht2) (Ev.now _)
      · simp only [if_true, within_eq, ht, Option.bind_some, Bool.not_true]
        refine Ev.step (f := fun k => impl_ServersOf.l0 k t (([] : List Int)) (s.size : Int) 0) (fun k => by simp [impl_ServersOf.j0]) ?_
        have := servers_l0 s.size hs t ht2 s.size 0 (by omega)
        simpa [srvL] using this

theorem FnExactServersOf : ∀ (a0 : ByteArray) (a1 : Int), a0.size ≤ 140737488351232 → (Lit.int .i64 a1).wf = true → ∃ k, laws_FnExactServersOf.f k a0 a1 = some true := by
  intro s t _ _
  refine Ev.rounds ?_
  unfold laws_FnExactServersOf.f
  by_cases hs : (s.size : Int) > 1048576
  · simp only [if_pos hs]
    exact Ev.now _
  · simp only [if_neg hs]
    obtain ⟨v, hv1, hv2, _⟩ := servers_both s (by omega) t
    refine Ev.bind hv1 ?_
    refine Ev.bind hv2 ?_
    simp only [bne_self_eq_false, Bool.false_eq_true, if_false, if_true]
    exact Ev.now _

end Go.Proofs.YtlfbpidklpjieaaDoor.Pure
