/- What the printed functions of FnExactLongestRun compute answers true, at every argument of its types. No condition beside the types' own bounds. -/
import Derived.Test.YtlfbpidklpjieaaDoorGPoints
import Derived.Test.YtlfbpidklpjieaaDoorQFnExactLongestRunx
namespace Go.Proofs.YtlfbpidklpjieaaDoor.Pure
open Go.RowKit Go.Proofs.YtlfbpidklpjieaaDoor.QFnExactLongestRun Go.Proofs.YtlfbpidklpjieaaDoorW.PrintWords Go.Proofs.YtlfbpidklpjieaaDoorW.PrintLast Go.Proofs.YtlfbpidklpjieaaDoorW.PrintMore
set_option linter.unusedVariables false
set_option linter.unusedSimpArgs false
set_option linter.unusedSectionVars false

theorem ev_some {α : Type} {g : Nat → Option α} {r : α} (h : ∀ k, g (k + 1) = some r) : Ev g r := Ev.step h (Ev.now r)
theorem ev_const {α : Type} {g : Nat → Option α} {r : α} (h : ∀ k, g k = some r) : Ev g r := ⟨0, fun k _ => h k⟩
theorem wrap_id {i : Int} (h0 : -9223372036854775808 ≤ i) (h1 : i ≤ 9223372036854775807) : wrap64 i = i := by unfold wrap64; omega

theorem b97 (c : UInt8) : ((c.toNat : Int) = 97) ↔ c = 97 := by
  constructor
  · intro h
    apply UInt8.toNat_inj.1
    show c.toNat = 97
    omega
  · rintro rfl
    rfl
theorem b98 (c : UInt8) : ((c.toNat : Int) = 98) ↔ c = 98 := by
  constructor
  · intro h
    apply UInt8.toNat_inj.1
    show c.toNat = 98
    omega
  · rintro rfl
    rfl
theorem len_data (s : ByteArray) : s.data.toList.length = s.size := by simp
theorem bt_nat (s : ByteArray) (n : Nat) (h : n < s.data.toList.length) : bt s (n : Int) = ((s.data.toList[n]).toNat : Int) := by
  have h2 : n < s.size := by rw [len_data] at h; exact h
  unfold bt
  rw [dif_pos (by simpa using h2)]
  rfl
def pointsB (s : ByteArray) : Bool := decide (s.size ≤ 100) && s.data.toList.all abB
theorem raPoints_l0 (s : ByteArray) (hs : s.size ≤ 1048576) (d : Nat) : ∀ i : Nat, i + d = s.size → Ev (fun k => spec_raPoints.l0 k s (i : Int)) ((s.data.toList.drop i).all abB) := by
  induction d with
  | zero =>
    intro i hi
    refine ev_some fun k => ?_
    simp only [spec_raPoints.l0]
    rw [if_neg (by omega), List.drop_of_length_le (by rw [len_data]; omega)]
    rfl
  | succ d ih =>
    intro i hi
    have hlt : i < s.data.toList.length := by rw [len_data]; omega
    have hn := ih (i + 1) (by omega)
    have hw : wrap64 ((i : Int) + 1) = ((i + 1 : Nat) : Int) := by rw [wrap_id (by omega) (by omega)]; omega
    have hbt := bt_nat s i hlt
    rw [List.drop_eq_getElem_cons hlt, List.all_cons]
    generalize s.data.toList[i] = c at hbt ⊢
    by_cases c1 : c = 97
    · have : abB c = true := by rw [c1]; rfl
      rw [this, Bool.true_and]
      refine Ev.step (fun k => ?_) hn
      simp only [spec_raPoints.l0]
      rw [if_pos (by omega), if_pos (by omega), hbt, if_pos ((b97 _).2 c1), hw]
    · by_cases c2 : c = 98
      · have : abB c = true := by rw [c2]; rfl
        rw [this, Bool.true_and]
        refine Ev.step (fun k => ?_) hn
        simp only [spec_raPoints.l0]
        rw [if_pos (by omega), if_pos (by omega), hbt, if_neg (fun h => c1 ((b97 _).1 h)), if_pos ((b98 _).2 c2), hw]
      · have : abB c = false := by simp [abB, c1, c2]
        rw [this, Bool.false_and]
        refine ev_some fun k => ?_
        simp only [spec_raPoints.l0]
        rw [if_pos (by omega), if_pos (by omega), hbt, if_neg (fun h => c1 ((b97 _).1 h)), if_neg (fun h => c2 ((b98 _).1 h))]
theorem raPoints_ev (s : ByteArray) (hs : s.size ≤ 1048576) : Ev (fun k => spec_raPoints.f k s) (pointsB s) := by
  unfold spec_raPoints.f pointsB
  by_cases h : (s.size : Int) > 100
  · simp only [if_pos h]
    have : ¬ s.size ≤ 100 := by omega
    simp only [this, decide_false, Bool.false_and]
    exact Ev.now _
  · simp only [if_neg h]
    have : s.size ≤ 100 := by omega
    simp only [this, decide_true, Bool.true_and]
    have := raPoints_l0 s hs s.size 0 (by omega)
    simpa using this
theorem isPoints_eq (s : ByteArray) : impl_isPoints.f s 100 = some (pointsB s) := by
  unfold impl_isPoints.f pointsB
  by_cases h : (s.size : Int) ≤ 100
  · rw [if_pos h, if_pos (by omega)]
    have : s.size ≤ 100 := by omega
    simp [this]
  · rw [if_neg h]
    have : ¬ s.size ≤ 100 := by omega
    simp [this]

theorem run_j2 (s : ByteArray) (hs : s.size ≤ 1048576) (i : Nat) (hi : i < s.size) (side : ByteArray) (best now : Int) (h0 : 0 ≤ best ∧ best ≤ i) (h1 : 0 ≤ now ∧ now ≤ i)
    (ih : ∀ (side : ByteArray) (best now : Int), 0 ≤ best ∧ best ≤ (i + 1 : Nat) → 0 ≤ now ∧ now ≤ (i + 1 : Nat) → ∃ v : ByteArray × Int × Bool, Ev (fun k => spec_LongestRun.l0 k s side best now ((i + 1 : Nat) : Int)) v ∧ Ev (fun k => impl_LongestRun.l0 k s side best now (s.size : Int) ((i + 1 : Nat) : Int)) v) (b : Bool) :
    ∃ v : ByteArray × Int × Bool, Ev (fun k => spec_LongestRun.j2 k s side best now (i : Int) (!b)) v ∧ Ev (fun k => impl_LongestRun.j2 k s side best now (i : Int) (s.size : Int) (i : Int) b) v := by
  have hwi : wrap64 ((i : Int) + 1) = ((i + 1 : Nat) : Int) := by rw [wrap_id (by omega) (by omega)]; omega
  have hwn : wrap64 (now + 1) = now + 1 := wrap_id (by omega) (by omega)
  cases b
  · by_cases hg : (1 : Int) > best
    · obtain ⟨v, hv1, hv2⟩ := ih (s.extract i (i + 1)) 1 1 (by omega) (by omega)
      refine ⟨v, Ev.step (fun k => ?_) hv1, Ev.step (fun k => ?_) hv2⟩
      · simp only [spec_LongestRun.j2, Bool.not_false, if_true, hwi]
        rw [if_pos hg, if_pos (by omega), if_pos (by omega), if_pos (by omega), Int.toNat_natCast, Int.toNat_natCast]
      · simp only [impl_LongestRun.j2, Bool.false_eq_true, if_false, hwi]
        rw [if_pos hg, if_pos (by omega), if_pos (by omega), if_pos (by omega), Int.toNat_natCast, Int.toNat_natCast]
    · obtain ⟨v, hv1, hv2⟩ := ih side best 1 (by omega) (by omega)
      refine ⟨v, Ev.step (fun k => ?_) hv1, Ev.step (fun k => ?_) hv2⟩
      · simp only [spec_LongestRun.j2, Bool.not_false, if_true, hwi]
        rw [if_neg hg]
      · simp only [impl_LongestRun.j2, Bool.false_eq_true, if_false, hwi]
        rw [if_neg hg]
  · by_cases hg : now + 1 > best
    · obtain ⟨v, hv1, hv2⟩ := ih (s.extract i (i + 1)) (now + 1) (now + 1) (by omega) (by omega)
      refine ⟨v, Ev.step (fun k => ?_) hv1, Ev.step (fun k => ?_) hv2⟩
      · simp only [spec_LongestRun.j2, Bool.not_true, Bool.false_eq_true, if_false, hwi, hwn]
        rw [if_pos hg, if_pos (by omega), if_pos (by omega), if_pos (by omega), Int.toNat_natCast, Int.toNat_natCast]
      · simp only [impl_LongestRun.j2, if_true, hwi, hwn]
        rw [if_pos hg, if_pos (by omega), if_pos (by omega), if_pos (by omega), Int.toNat_natCast, Int.toNat_natCast]
    · obtain ⟨v, hv1, hv2⟩ := ih side best (now + 1) (by omega) (by omega)
      refine ⟨v, Ev.step (fun k => ?_) hv1, Ev.step (fun k => ?_) hv2⟩
      · simp only [spec_LongestRun.j2, Bool.not_true, Bool.false_eq_true, if_false, hwi, hwn]
        rw [if_neg hg]
      · simp only [impl_LongestRun.j2, if_true, hwi, hwn]
        rw [if_neg hg]
theorem run_l0 (s : ByteArray) (hs : s.size ≤ 1048576) (d : Nat) : ∀ (i : Nat) (side : ByteArray) (best now : Int), i + d = s.size → 0 ≤ best ∧ best ≤ i → 0 ≤ now ∧ now ≤ i →
    ∃ v : ByteArray × Int × Bool, Ev (fun k => spec_LongestRun.l0 k s side best now (i : Int)) v ∧ Ev (fun k => impl_LongestRun.l0 k s side best now (s.size : Int) (i : Int)) v := by
  induction d with
  | zero =>
    intro i side best now hi _ _
    refine ⟨(side, best, true), ev_some fun k => ?_, ev_some fun k => ?_⟩
    · simp only [spec_LongestRun.l0]
      rw [if_neg (by omega)]
    · simp only [impl_LongestRun.l0]
      rw [if_neg (by omega)]
  | succ d ih =>
    intro i side best now hi h0 h1
    have hlt : i < s.size := by omega
    have hj := run_j2 s hs i hlt side best now h0 h1 (fun side best now a b => ih (i + 1) side best now (by omega) a b)
    by_cases hz : i = 0
    · subst hz
      obtain ⟨v, hv1, hv2⟩ := hj false
      refine ⟨v, Ev.step (fun k => ?_) hv1, Ev.step (fun k => ?_) hv2⟩
      · simp only [spec_LongestRun.l0]
        rw [if_pos (by omega), if_pos (by omega)]
        rfl
      · simp only [impl_LongestRun.l0]
        rw [if_pos (by omega), if_neg (by omega)]
    · have hwm : wrap64 ((i : Int) - 1) = (i : Int) - 1 := wrap_id (by omega) (by omega)
      obtain ⟨v, hv1, hv2⟩ := hj (bt s i == bt s ((i : Int) - 1))
      have e : (!(bt s i == bt s ((i : Int) - 1))) = (bt s ((i : Int) - 1) != bt s i) := by
        show _ = !(bt s ((i : Int) - 1) == bt s i)
        congr 1
        rw [Bool.eq_iff_iff, beq_iff_eq, beq_iff_eq]
        exact eq_comm
      rw [e] at hv1
      refine ⟨v, Ev.step (fun k => ?_) hv1, Ev.step (fun k => ?_) hv2⟩
      · simp only [spec_LongestRun.l0, hwm]
        rw [if_pos (by omega), if_neg (by omega), if_pos (by omega), if_pos (by omega), if_pos (by omega)]
      · simp only [impl_LongestRun.l0, hwm]
        rw [if_pos (by omega), if_pos (by omega), if_pos (by omega), if_pos (by omega), if_pos (by omega), if_pos (by omega)]

theorem FnExactLongestRun : ∀ (a0 : ByteArray), a0.size ≤ 140737488351232 → ∃ k, laws_FnExactLongestRun.f k a0 = some true := by
  intro s _
  refine Ev.rounds ?_
  unfold laws_FnExactLongestRun.f
  by_cases hs : (s.size : Int) > 1048576
  · simp only [if_pos hs]
    exact Ev.now _
  · simp only [if_neg hs]
    have hs2 : s.size ≤ 1048576 := by omega
    have both : ∃ v : ByteArray × Int × Bool, Ev (fun k => spec_LongestRun.f k s) v ∧ Ev (fun k => impl_LongestRun.f k s) v := by
      unfold spec_LongestRun.f impl_LongestRun.f
      rw [isPoints_eq]
      simp only [Option.bind_some]
      have hp := raPoints_ev s hs2
      have no : Ev (fun k => spec_LongestRun.j0 k s true) ((⟨#[]⟩ : ByteArray), 0, false) ∧ Ev (fun k => impl_LongestRun.j0 k s true) ((⟨#[]⟩ : ByteArray), 0, false) :=
        ⟨ev_some fun k => by simp [spec_LongestRun.j0], ev_some fun k => by simp [impl_LongestRun.j0]⟩
      cases hb : pointsB s
      · rw [hb] at hp
        refine ⟨((⟨#[]⟩ : ByteArray), 0, false), Ev.bind hp ?_, ?_⟩
        · simp only [Bool.false_eq_true, if_false]
          exact no.1
        · simp only [Bool.false_eq_true, if_false]
          exact no.2
      · rw [hb] at hp
        cases he : (s.toList == ([] : List UInt8))
        · obtain ⟨v, hv1, hv2⟩ := run_l0 s hs2 s.size 0 (⟨#[]⟩ : ByteArray) 0 0 (by omega) (by omega) (by omega)
          refine ⟨v, Ev.bind hp ?_, ?_⟩
          · simp only [if_true]
            refine Ev.step (f := fun k => spec_LongestRun.l0 k s (⟨#[]⟩ : ByteArray) 0 0 0) (fun k => by simp [spec_LongestRun.j0]) ?_
            simpa using hv1
          · simp only [if_true]
            refine Ev.step (f := fun k => impl_LongestRun.l0 k s (⟨#[]⟩ : ByteArray) 0 0 (s.size : Int) 0) (fun k => by simp [impl_LongestRun.j0]) ?_
            simpa using hv2
        · refine ⟨((⟨#[]⟩ : ByteArray), 0, false), Ev.bind hp ?_, ?_⟩
          · simp only [if_true]
            exact no.1
          · simp only [if_true]
            exact no.2
    obtain ⟨v, hv1, hv2⟩ := both
    refine Ev.bind hv1 ?_
    refine Ev.bind hv2 ?_
    simp only [bne_self_eq_false, Bool.false_eq_true, if_false, if_true]
    exact Ev.now _

end Go.Proofs.YtlfbpidklpjieaaDoor.Pure
