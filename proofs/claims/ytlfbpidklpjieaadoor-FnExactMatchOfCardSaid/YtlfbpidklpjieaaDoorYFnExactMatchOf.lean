/- What the printed functions of FnExactMatchOf compute answers true, at every argument of its types. No condition beside the types' own bounds. -/
import Derived.Test.YtlfbpidklpjieaaDoorGPoints
import Derived.Test.YtlfbpidklpjieaaDoorGFollow
import Derived.Test.YtlfbpidklpjieaaDoorGFirst
import Derived.Test.YtlfbpidklpjieaaDoorQFnExactMatchOfx
namespace Go.Proofs.YtlfbpidklpjieaaDoor.Pure
open Go.RowKit Go.Proofs.YtlfbpidklpjieaaDoor.QFnExactMatchOf Go.Proofs.YtlfbpidklpjieaaDoorW.PrintWords Go.Proofs.YtlfbpidklpjieaaDoorW.PrintLast Go.Proofs.YtlfbpidklpjieaaDoorW.PrintMore
set_option linter.unusedVariables false
set_option linter.unusedSimpArgs false
set_option linter.unusedSectionVars false

theorem ev_some {α : Type} {g : Nat → Option α} {r : α} (h : ∀ k, g (k + 1) = some r) : Ev g r := Ev.step h (Ev.now r)
theorem ev_const {α : Type} {g : Nat → Option α} {r : α} (h : ∀ k, g k = some r) : Ev g r := ⟨0, fun k _ => h k⟩
theorem wrap_id {i : Int} (h0 : -9223372036854775808 ≤ i) (h1 : i ≤ 9223372036854775807) : wrap64 i = i := by unfold wrap64; omega

theorem l1In_eq (a b c : Int) : spec_l1In.f a b c = some (decide (b ≤ a ∧ a ≤ c)) := by
  unfold spec_l1In.f
  by_cases h : a ≥ b
  · rw [if_pos h]
    have h2 : b ≤ a := h
    simp [h2]
  · rw [if_neg h]
    have h2 : ¬ b ≤ a := h
    simp [h2]
theorem within_eq (a b c : Int) : impl_within.f a b c = some (decide (b ≤ a ∧ a ≤ c)) := by
  unfold impl_within.f
  by_cases h : b ≤ a
  · rw [if_pos h]
    simp [h]
  · rw [if_neg h]
    simp [h]

theorem b97 (c : UInt8) : ((c.toNat : Int) = 97) ↔ c = 97 := by
  constructor
  · intro h
    apply UInt8.toNat_inj.1
    show c.toNat = 97
    omega
  · rintro rfl
    rfl
theorem b98 (c : UInt8) : ((c.toNat : Int) = 98) ↔ c = 98 := by
  constructor
  · intro h
    apply UInt8.toNat_inj.1
    show c.toNat = 98
    omega
  · rintro rfl
    rfl
theorem len_data (s : ByteArray) : s.data.toList.length = s.size := by simp
theorem bt_nat (s : ByteArray) (n : Nat) (h : n < s.data.toList.length) : bt s (n : Int) = ((s.data.toList[n]).toNat : Int) := by
  have h2 : n < s.size := by rw [len_data] at h; exact h
  unfold bt
  rw [dif_pos (by simpa using h2)]
  rfl
def pointsB (s : ByteArray) : Bool := decide (s.size ≤ 100) && s.data.toList.all abB
theorem raPoints_l0 (s : ByteArray) (hs : s.size ≤ 1048576) (d : Nat) : ∀ i : Nat, i + d = s.size → Ev (fun k => spec_raPoints.l0 k s (i : Int)) ((s.data.toList.drop i).all abB) := by
  induction d with
  | zero =>
    intro i hi
    refine ev_some fun k => ?_
    simp only [spec_raPoints.l0]
    rw [if_neg (by omega), List.drop_of_length_le (by rw [len_data]; omega)]
    rfl
  | succ d ih =>
    intro i hi
    have hlt : i < s.data.toList.length := by rw [len_data]; omega
    have hn := ih (i + 1) (by omega)
    have hw : wrap64 ((i : Int) + 1) = ((i + 1 : Nat) : Int) := by rw [wrap_id (by omega) (by omega)]; omega
    have hbt := bt_nat s i hlt
    rw [List.drop_eq_getElem_cons hlt, List.all_cons]
    generalize s.data.toList[i] = c at hbt ⊢
    by_cases c1 : c = 97
    · have : abB c = true := by rw [c1]; rfl
      rw [this, Bool.true_and]
      refine Ev.step (fun k => ?_) hn
      simp only [spec_raPoints.l0]
      rw [if_pos (by omega), if_pos (by omega), hbt, if_pos ((b97 _).2 c1), hw]
    · by_cases c2 : c = 98
      · have : abB c = true := by rw [c2]; rfl
        rw [this, Bool.true_and]
        refine Ev.step (fun k => ?_) hn
        simp only [spec_raPoints.l0]
        rw [if_pos (by omega), if_pos (by omega), hbt, if_neg (fun h => c1 ((b97 _).1 h)), if_pos ((b98 _).2 c2), hw]
      · have : abB c = false := by simp [abB, c1, c2]
        rw [this, Bool.false_and]
        refine ev_some fun k => ?_
        simp only [spec_raPoints.l0]
        rw [if_pos (by omega), if_pos (by omega), hbt, if_neg (fun h => c1 ((b97 _).1 h)), if_neg (fun h => c2 ((b98 _).1 h))]
theorem raPoints_ev (s : ByteArray) (hs : s.size ≤ 1048576) : Ev (fun k => spec_raPoints.f k s) (pointsB s) := by
  unfold spec_raPoints.f pointsB
  by_cases h : (s.size : Int) > 100
  · simp only [if_pos h]
    have : ¬ s.size ≤ 100 := by omega
    simp only [this, decide_false, Bool.false_and]
    exact Ev.now _
  · simp only [if_neg h]
    have : s.size ≤ 100 := by omega
    simp only [this, decide_true, Bool.true_and]
    have := raPoints_l0 s hs s.size 0 (by omega)
    simpa using this
theorem isPoints_eq (s : ByteArray) : impl_isPoints.f s 100 = some (pointsB s) := by
  unfold impl_isPoints.f pointsB
  by_cases h : (s.size : Int) ≤ 100
  · rw [if_pos h, if_pos (by omega)]
    have : s.size ≤ 100 := by omega
    simp [this]
  · rw [if_neg h]
    have : ¬ s.size ≤ 100 := by omega
    simp [this]

def goodR (a b : Int) : Bool := decide (1 ≤ a ∧ a ≤ 30) && decide (1 ≤ b ∧ b ≤ 5)
theorem raGood_eq (a b : Int) : spec_raGood.f a b = some (goodR a b) := by
  unfold spec_raGood.f goodR
  rw [l1In_eq, Option.bind_some]
  cases decide (1 ≤ a ∧ a ≤ 30)
  · rfl
  · rw [if_pos rfl, l1In_eq]; rfl
theorem isRace_eq (a b : Int) : impl_IsRace.f a b = some (goodR a b) := by
  unfold impl_IsRace.f goodR
  rw [within_eq, Option.bind_some]
  cases decide (1 ≤ a ∧ a ≤ 30)
  · rfl
  · rw [if_pos rfl, within_eq]; rfl
theorem toRace_eq (a b : Int) : laws_toRace.f a b = some (a, b) := rfl

def Rw (To Lead a b : Int) : Int := if a ≥ To ∧ a - b ≥ Lead then 1 else if b ≥ To ∧ b - a ≥ Lead then -1 else 0
theorem raWon_ev (To Lead a b : Int) (ha : 0 ≤ a ∧ a ≤ 2000000) (hb : 0 ≤ b ∧ b ≤ 2000000) : Ev (fun k => spec_raWon.f k To Lead a b) (Rw To Lead a b) := by
  have hw1 : wrap64 (a - b) = a - b := wrap_id (by omega) (by omega)
  have hw2 : wrap64 (b - a) = b - a := wrap_id (by omega) (by omega)
  have j0 : ∀ x : Bool, Ev (fun k => spec_raWon.j0 k a b x To Lead) (if x = true then 1 else if b ≥ To ∧ b - a ≥ Lead then -1 else 0) := by
    intro x
    refine ev_some fun k => ?_
    simp only [spec_raWon.j0, hw2]
    cases x
    · simp only [Bool.false_eq_true, if_false]
      by_cases h1 : b ≥ To
      · rw [if_pos h1]
        by_cases h2 : b - a ≥ Lead
        · rw [if_pos h2, if_pos ⟨h1, h2⟩]
        · rw [if_neg h2, if_neg (fun h => h2 h.2)]
      · rw [if_neg h1, if_neg (fun h => h1 h.1)]
    · simp
  unfold spec_raWon.f Rw
  by_cases h1 : a ≥ To
  · simp only [if_pos h1, hw1]
    have := j0 (decide (a - b ≥ Lead))
    by_cases h2 : a - b ≥ Lead
    · rw [if_pos ⟨h1, h2⟩]
      simpa [h2] using this
    · rw [if_neg (fun h => h2 h.2)]
      simpa [h2] using this
  · simp only [if_neg h1]
    rw [if_neg (fun h => h1 h.1)]
    have := j0 false
    simpa using this
theorem Rw_three (To Lead a b : Int) : Rw To Lead a b = 1 ∨ Rw To Lead a b = -1 ∨ Rw To Lead a b = 0 := by
  unfold Rw
  repeat' split
  all_goals simp
def cnt (To Lead : Int) : List UInt8 → Int → Int → Int × Int × Bool
  | [], a, b => (a, b, true)
  | c :: l, a, b => if Rw To Lead a b = 0 then (if c = 97 then cnt To Lead l (a + 1) b else cnt To Lead l a (b + 1)) else (a, b, false)
theorem raCount_l0 (To Lead : Int) (s : ByteArray) (hs : s.size ≤ 1048576) (d : Nat) : ∀ (i : Nat) (a b : Int), i + d = s.size → 0 ≤ a → 0 ≤ b → a + b ≤ i →
    Ev (fun k => spec_raCount.l0 k s a b (i : Int) To Lead) (cnt To Lead (s.data.toList.drop i) a b) := by
  induction d with
  | zero =>
    intro i a b hi ha hb hab
    refine ev_some fun k => ?_
    simp only [spec_raCount.l0]
    rw [if_neg (by omega), List.drop_of_length_le (by rw [len_data]; omega)]
    rfl
  | succ d ih =>
    intro i a b hi ha hb hab
    have hlt : i < s.data.toList.length := by rw [len_data]; omega
    have hw : wrap64 ((i : Int) + 1) = ((i + 1 : Nat) : Int) := by rw [wrap_id (by omega) (by omega)]; omega
    have hwa : wrap64 (a + 1) = a + 1 := wrap_id (by omega) (by omega)
    have hwb : wrap64 (b + 1) = b + 1 := wrap_id (by omega) (by omega)
    have hlt2 : (i : Int) < (s.size : Int) := by omega
    have h0i : (0 : Int) ≤ (i : Int) := by omega
    rw [List.drop_eq_getElem_cons hlt]
    refine Ev.step (f := fun k => (spec_raWon.f k To Lead a b).bind fun t => (if t = 0 then (if 0 ≤ (i : Int) then (if (bt s i) = 97 then (spec_raCount.l0 k s (wrap64 (a + 1)) b (wrap64 ((i : Int) + 1)) To Lead) else (spec_raCount.l0 k s a (wrap64 (b + 1)) (wrap64 ((i : Int) + 1)) To Lead)) else (none)) else (some (a, b, false)))) (fun k => ?_) ?_
    · simp only [spec_raCount.l0]
      rw [if_pos hlt2]
    · refine Ev.bind (raWon_ev To Lead a b (by omega) (by omega)) ?_
      simp only [cnt]
      by_cases hR : Rw To Lead a b = 0
      · simp only [hR, if_true, h0i, hw, hwa, hwb, bt_nat s i hlt]
        by_cases c1 : s.data.toList[i] = 97
        · simp only [(b97 _).2 c1, if_true, c1]
          exact ih (i + 1) (a + 1) b (by omega) (by omega) hb (by omega)
        · have c2 : ¬ ((s.data.toList[i].toNat : Int) = 97) := fun h => c1 ((b97 _).1 h)
          simp only [c2, c1, if_false]
          exact ih (i + 1) a (b + 1) (by omega) ha (by omega) (by omega)
      · simp only [hR, if_false]
        exact Ev.now _
def cntS (To Lead : Int) (s : ByteArray) : Int × Int × Bool := cnt To Lead s.data.toList 0 0
theorem raCount_ev (To Lead : Int) (s : ByteArray) (hs : s.size ≤ 1048576) : Ev (fun k => spec_raCount.f k To Lead s) (cntS To Lead s) := by
  have := raCount_l0 To Lead s hs s.size 0 0 0 (by omega) (Int.le_refl 0) (Int.le_refl 0) (by omega)
  simpa [spec_raCount.f, cntS] using this
theorem cnt_bd (To Lead : Int) (l : List UInt8) : ∀ a b : Int, 0 ≤ a → 0 ≤ b → 0 ≤ (cnt To Lead l a b).1 ∧ 0 ≤ (cnt To Lead l a b).2.1 ∧ (cnt To Lead l a b).1 + (cnt To Lead l a b).2.1 ≤ a + b + l.length := by
  induction l with
  | nil => intro a b ha hb; simp [cnt, ha, hb]
  | cons c l ih =>
    intro a b ha hb
    simp only [cnt, List.length_cons]
    split
    · split
      · have := ih (a + 1) b (by omega) hb; omega
      · have := ih a (b + 1) ha (by omega); omega
    · simp only; omega
theorem cntS_bd (To Lead : Int) (s : ByteArray) (hs : s.size ≤ 1048576) : (0 ≤ (cntS To Lead s).1 ∧ (cntS To Lead s).1 ≤ 1048576) ∧ (0 ≤ (cntS To Lead s).2.1 ∧ (cntS To Lead s).2.1 ≤ 1048576) := by
  have := cnt_bd To Lead s.data.toList 0 0 (Int.le_refl 0) (Int.le_refl 0)
  rw [len_data] at this
  unfold cntS
  omega
def code (r : Int) : Nat := if r = 1 then 1 else if r = -1 then 2 else 0
theorem code_won (To Lead a b : Int) (n : Nat) (hn : n = 0) : (if wonB To Lead a b = true then 1 else if wonB To Lead b a = true then 2 else n) = code (Rw To Lead a b) := by
  subst hn
  unfold wonB Rw code
  by_cases h1 : a ≥ To ∧ a - b ≥ Lead
  · have e1 : (decide (To ≤ a) && decide (Lead ≤ a - b)) = true := by simp; omega
    simp [h1, e1]
  · have e1 : (decide (To ≤ a) && decide (Lead ≤ a - b)) = false := by
      cases h : (decide (To ≤ a) && decide (Lead ≤ a - b))
      · rfl
      · exfalso; apply h1; simp at h; omega
    rw [e1, if_neg h1]
    by_cases h2 : b ≥ To ∧ b - a ≥ Lead
    · have e2 : (decide (To ≤ b) && decide (Lead ≤ b - a)) = true := by simp; omega
      simp [h2, e2]
    · have e2 : (decide (To ≤ b) && decide (Lead ≤ b - a)) = false := by
        cases h : (decide (To ≤ b) && decide (Lead ≤ b - a))
        · rfl
        · exfalso; apply h2; simp at h; omega
      rw [e2, if_neg h2]
      simp
theorem fold_false (To Lead : Int) (l : List UInt8) : ∀ st : Stand, st.play = false → (l.foldl (Stand.step To Lead) st).play = false := by
  induction l with
  | nil => intro st h; exact h
  | cons c l ih =>
    intro st h
    refine ih (st.step To Lead c) ?_
    simp [Stand.step, h]
theorem run_cnt (To Lead : Int) (l : List UInt8) : ∀ st : Stand, st.play = true → st.won = code (Rw To Lead st.a st.b) →
    (l.foldl (Stand.step To Lead) st).play = (cnt To Lead l st.a st.b).2.2 ∧ ((cnt To Lead l st.a st.b).2.2 = true → (l.foldl (Stand.step To Lead) st).a = (cnt To Lead l st.a st.b).1 ∧ (l.foldl (Stand.step To Lead) st).b = (cnt To Lead l st.a st.b).2.1 ∧ (l.foldl (Stand.step To Lead) st).won = code (Rw To Lead (cnt To Lead l st.a st.b).1 (cnt To Lead l st.a st.b).2.1)) := by
  induction l with
  | nil => intro st hp hw; exact ⟨hp, fun _ => ⟨rfl, rfl, hw⟩⟩
  | cons c l ih =>
    intro st hp hw
    rw [List.foldl_cons]
    by_cases hR : Rw To Lead st.a st.b = 0
    · have h0 : st.won = 0 := by rw [hw, hR]; rfl
      have e : cnt To Lead (c :: l) st.a st.b = cnt To Lead l (st.step To Lead c).a (st.step To Lead c).b := by
        simp only [cnt, Stand.step]
        rw [if_pos hR]
        by_cases hc : c = 97
        · simp [hc]
        · simp [hc]
      rw [e]
      refine ih (st.step To Lead c) (by simp [Stand.step, hp, h0]) ?_
      rw [← code_won To Lead _ _ st.won h0]
      simp [Stand.step, hp, h0]
    · have h0 : st.won ≠ 0 := by
        rw [hw]
        rcases Rw_three To Lead st.a st.b with h | h | h
        · rw [h]; decide
        · rw [h]; decide
        · exact absurd h hR
      have e : cnt To Lead (c :: l) st.a st.b = (st.a, st.b, false) := by simp only [cnt]; rw [if_neg hR]
      rw [e]
      refine ⟨fold_false To Lead l _ (by simp [Stand.step, h0]), fun h => by cases h⟩
theorem points_ascii {s : ByteArray} (h : pointsB s = true) : s.size ≤ 100 ∧ s.data.toList.all (fun c => decide (c.toNat < 128)) = true := by
  unfold pointsB at h
  rw [Bool.and_eq_true] at h
  refine ⟨of_decide_eq_true h.1, ?_⟩
  rw [List.all_eq_true]
  intro c hc
  have := List.all_eq_true.1 h.2 c hc
  unfold abB at this
  simp only [Bool.or_eq_true, beq_iff_eq] at this
  rcases this with rfl | rfl <;> rfl
theorem follow_eq {To Lead : Int} (hT : 1 ≤ To) {s : ByteArray} (h : pointsB s = true) : ∃ a b t, impl_follow.f To Lead s = some (a, b, t, (cntS To Lead s).2.2) ∧ ((cntS To Lead s).2.2 = true → a = (cntS To Lead s).1 ∧ b = (cntS To Lead s).2.1 ∧ t = wonText (code (Rw To Lead (cntS To Lead s).1 (cntS To Lead s).2.1))) := by
  obtain ⟨h1, h2⟩ := points_ascii h
  have h0 : Rw To Lead 0 0 = 0 := by
    unfold Rw
    rw [if_neg (by omega), if_neg (by omega)]
  obtain ⟨hp, hr⟩ := run_cnt To Lead s.data.toList ⟨0, 0, 0, true⟩ rfl (by simp only [h0]; rfl)
  unfold impl_follow.f
  rw [if_pos ⟨by omega, h2⟩]
  refine ⟨_, _, _, by rw [show (Stand.run To Lead s.data.toList).play = (cntS To Lead s).2.2 from hp], fun ht => ?_⟩
  obtain ⟨e1, e2, e3⟩ := hr ht
  exact ⟨e1, e2, by rw [show (Stand.run To Lead s.data.toList).won = _ from e3]; rfl⟩
def isB (To Lead : Int) (s : ByteArray) : Bool := goodR To Lead && (pointsB s && (cntS To Lead s).2.2)
theorem goodR_to {To Lead : Int} (h : goodR To Lead = true) : (1 ≤ To ∧ To ≤ 30) ∧ (1 ≤ Lead ∧ Lead ≤ 5) := by
  unfold goodR at h
  rw [Bool.and_eq_true] at h
  exact ⟨of_decide_eq_true h.1, of_decide_eq_true h.2⟩
theorem isPlay_eq (To Lead : Int) (s : ByteArray) : impl_IsPlay.f To Lead s = some (isB To Lead s, goodR To Lead && pointsB s) := by
  unfold impl_IsPlay.f isB
  rw [isRace_eq, Option.bind_some]
  cases hg : goodR To Lead
  · rfl
  · rw [if_pos rfl, isPoints_eq, Option.bind_some]
    cases hp : pointsB s
    · rfl
    · obtain ⟨a, b, t, hf, _⟩ := follow_eq (Lead := Lead) (goodR_to hg).1.1 hp
      rw [if_pos rfl, hf]
      rfl

theorem raIs_ev (To Lead : Int) (s : ByteArray) (hs : s.size ≤ 1048576) : Ev (fun k => spec_raIs.f k To Lead s) (isB To Lead s) := by
  unfold spec_raIs.f isB
  rw [raGood_eq]
  simp only [Option.bind_some]
  cases goodR To Lead
  · exact Ev.now _
  · simp only [if_true, Bool.true_and]
    refine Ev.bind (raPoints_ev s hs) ?_
    cases pointsB s
    · exact Ev.now _
    · simp only [if_true, Bool.true_and]
      exact Ev.bind (raCount_ev To Lead s hs) (Ev.now _)
theorem isB_parts {To Lead : Int} {s : ByteArray} (h : isB To Lead s = true) : goodR To Lead = true ∧ pointsB s = true ∧ (cntS To Lead s).2.2 = true := by
  unfold isB at h
  simp only [Bool.and_eq_true] at h
  exact ⟨h.1, h.2.1, h.2.2⟩
theorem played_yes {To Lead : Int} {s : ByteArray} (h : isB To Lead s = true) : impl_played.f To Lead s = some ((cntS To Lead s).1, (cntS To Lead s).2.1, wonText (code (Rw To Lead (cntS To Lead s).1 (cntS To Lead s).2.1)), true, true) := by
  obtain ⟨hg, hp, hc⟩ := isB_parts h
  obtain ⟨a, b, t, hf, hr⟩ := follow_eq (Lead := Lead) (goodR_to hg).1.1 hp
  obtain ⟨rfl, rfl, rfl⟩ := hr hc
  unfold impl_played.f
  rw [isPlay_eq, Option.bind_some, h, hg, hp, hf, hc]
  rfl
theorem played_no {To Lead : Int} {s : ByteArray} (h : isB To Lead s = false) : impl_played.f To Lead s = some (0, 0, (⟨#[]⟩ : ByteArray), false, false) := by
  unfold impl_played.f
  rw [isPlay_eq, Option.bind_some, h]
  cases (goodR To Lead && pointsB s) <;> rfl

theorem raSide_ev (To Lead : Int) (s : ByteArray) (hs : s.size ≤ 1048576) : Ev (fun k => spec_raSide.f k To Lead s) (wonText (code (Rw To Lead (cntS To Lead s).1 (cntS To Lead s).2.1))) := by
  have hb := cntS_bd To Lead s hs
  unfold spec_raSide.f
  refine Ev.bind (raCount_ev To Lead s hs) ?_
  simp only [Option.bind_some]
  refine Ev.bind (raWon_ev To Lead _ _ (by omega) (by omega)) ?_
  have e1 : wrap64 ((1 : Int) + 1) = 2 := by unfold wrap64; omega
  have e2 : wrap64 ((-1 : Int) + 1) = 0 := by unfold wrap64; omega
  have e3 : wrap64 ((0 : Int) + 1) = 1 := by unfold wrap64; omega
  rcases Rw_three To Lead (cntS To Lead s).1 (cntS To Lead s).2.1 with h | h | h <;> rw [h] <;> simp only [e1, e2, e3] <;> exact ev_const fun _ => rfl

/-! lists of texts: the law's own sizes, copies and comparisons -/
theorem rdS (l : List ByteArray) (n : Nat) (h : n < l.length) : rdOf ByteArray.empty l (n : Int) = l[n] := by
  unfold rdOf
  simp [List.getD_eq_getElem?_getD, List.getElem?_eq_getElem h]
theorem szStringS_l0 (l : List ByteArray) (hl : l.length ≤ 1048576) (hz : ∀ x ∈ l, x.size ≤ 9223372036854775807) (d : Nat) : ∀ (i : Nat) (x : Int), i + d = l.length → 0 ≤ x → x ≤ 1048576 → ∃ t : Int, Ev (fun k => laws_szStringS.l0 k l x (i : Int)) t ∧ (t < 0 ∨ ∀ j, i ≤ j → (h : j < l.length) → l[j].size ≤ 1048576) := by
  induction d with
  | zero =>
    intro i x hi h0 h1
    refine ⟨x, ev_some fun k => ?_, Or.inr fun j h2 h3 => by omega⟩
    simp only [laws_szStringS.l0]
    rw [if_neg (by omega)]
  | succ d ih =>
    intro i x hi h0 h1
    have hlt : i < l.length := by omega
    have hs := hz l[i] (List.getElem_mem hlt)
    have hwi : wrap64 ((i : Int) + 1) = ((i + 1 : Nat) : Int) := by rw [wrap_id (by omega) (by omega)]; omega
    have hr := rdS l i hlt
    have hw : wrap64 (x - (l[i].size : Int)) = x - (l[i].size : Int) := wrap_id (by omega) (by omega)
    by_cases hn : x - (l[i].size : Int) < 0
    · refine ⟨-1, ev_some fun k => ?_, Or.inl (by decide)⟩
      simp only [laws_szStringS.l0]
      rw [if_pos (by omega), if_pos (by omega), hr, hw, if_pos hn]
    · obtain ⟨t, ht, hc⟩ := ih (i + 1) (x - (l[i].size : Int)) (by omega) (by omega) (by omega)
      refine ⟨t, Ev.step (fun k => ?_) ht, ?_⟩
      · simp only [laws_szStringS.l0]
        rw [if_pos (by omega), if_pos (by omega), hr, hw, if_neg hn, hwi]
      · rcases hc with hc | hc
        · exact Or.inl hc
        · refine Or.inr fun j h2 h3 => ?_
          by_cases e : j = i
          · subst e
            omega
          · exact hc j (by omega) h3
theorem szStringS_ev (l : List ByteArray) (hl : l.length ≤ 9223372036854775807) (hz : ∀ x ∈ l, x.size ≤ 9223372036854775807) : ∃ t : Int, Ev (fun k => laws_szStringS.f k l 1048576) t ∧ (t < 0 ∨ (l.length ≤ 1048576 ∧ ∀ x ∈ l, x.size ≤ 1048576)) := by
  have hw : wrap64 (1048576 - (l.length : Int)) = 1048576 - (l.length : Int) := wrap_id (by omega) (by omega)
  unfold laws_szStringS.f
  rw [hw]
  by_cases h : 1048576 - (l.length : Int) < 0
  · refine ⟨-1, ?_, Or.inl (by decide)⟩
    simp only [if_pos h]
    exact Ev.now _
  · simp only [if_neg h]
    obtain ⟨t, ht, hc⟩ := szStringS_l0 l (by omega) hz l.length 0 (1048576 - (l.length : Int)) (by omega) (by omega) (by omega)
    refine ⟨t, by simpa using ht, ?_⟩
    rcases hc with hc | hc
    · exact Or.inl hc
    · refine Or.inr ⟨by omega, fun x hx => ?_⟩
      obtain ⟨j, hj, rfl⟩ := List.getElem_of_mem hx
      exact hc j (by omega) hj
theorem toStringS_l0 (l : List ByteArray) (hl : l.length ≤ 1048576) (d : Nat) : ∀ (i : Nat) (x : List ByteArray), i + d = l.length → x.length = l.length → (∀ j, j < i → x[j]? = l[j]?) → Ev (fun k => laws_toStringS.l0 k l x (i : Int)) l := by
  induction d with
  | zero =>
    intro i x hi hx hp
    refine ev_some fun k => ?_
    simp only [laws_toStringS.l0]
    rw [if_neg (by omega)]
    congr 1
    apply List.ext_getElem?
    intro j
    by_cases hj : j < i
    · exact hp j hj
    · rw [List.getElem?_eq_none (by omega), List.getElem?_eq_none (by omega)]
  | succ d ih =>
    intro i x hi hx hp
    have hlt : i < l.length := by omega
    refine Ev.step (f := fun k => laws_toStringS.l0 k l (x.set i l[i]) ((i + 1 : Nat) : Int)) (fun k => ?_) (ih (i + 1) (x.set i l[i]) (by omega) (by rw [List.length_set]; exact hx) ?_)
    · simp only [laws_toStringS.l0]
      rw [if_pos (by omega), if_pos (by omega), rdS l i hlt, if_pos (by omega), wrap_id (by omega) (by omega), Int.toNat_natCast]
      rfl
    · intro j hj
      by_cases e : j = i
      · subst e
        rw [List.getElem?_set_self (by omega), List.getElem?_eq_getElem hlt]
      · rw [List.getElem?_set_ne (by omega)]
        exact hp j (by omega)
theorem toStringS_ev (l : List ByteArray) (hl : l.length ≤ 1048576) : Ev (fun k => laws_toStringS.f k l) l := by
  have := toStringS_l0 l hl l.length 0 (List.replicate l.length (⟨#[]⟩ : ByteArray)) (by omega) (by simp) (fun j hj => by omega)
  unfold laws_toStringS.f
  have e1 : (0 : Int) ≤ (l.length : Int) := by omega
  have e2 : l.length ≤ 17592186044416 := by omega
  simp only [if_pos e1, Int.toNat_natCast, if_pos e2]
  simpa using this
theorem eqStringS_l0 (l : List ByteArray) (hl : l.length ≤ 1048576) (d : Nat) : ∀ i : Nat, i + d = l.length → Ev (fun k => laws_eqStringS.l0 k l l (i : Int)) true := by
  induction d with
  | zero =>
    intro i hi
    refine ev_some fun k => ?_
    simp only [laws_eqStringS.l0]
    rw [if_neg (by omega)]
  | succ d ih =>
    intro i hi
    refine Ev.step (f := fun k => laws_eqStringS.l0 k l l ((i + 1 : Nat) : Int)) (fun k => ?_) (ih (i + 1) (by omega))
    simp only [laws_eqStringS.l0]
    rw [if_pos (by omega), if_pos (by omega), if_pos (by omega)]
    simp only [if_true]
    rw [wrap_id (by omega) (by omega)]
    rfl
theorem eqStringS_ev (l : List ByteArray) (hl : l.length ≤ 1048576) : Ev (fun k => laws_eqStringS.f k l l) true := by
  have := eqStringS_l0 l hl l.length 0 (by omega)
  simpa [laws_eqStringS.f] using this

/-- What a play decides: 1 for the first side, 2 for the second one, 0 for neither or for no play. -/
def decided (To Lead : Int) (s : ByteArray) : Nat := if isB To Lead s = true then code (Rw To Lead (cntS To Lead s).1 (cntS To Lead s).2.1) else 0
def matchGo (To Lead wins : Int) : List ByteArray → Int → Int → ByteArray × Bool
  | [], a, b => ((if wins = a then (⟨#[97]⟩ : ByteArray) else if wins = b then (⟨#[98]⟩ : ByteArray) else (⟨#[45]⟩ : ByteArray)), true)
  | p :: l, a, b => if a = wins ∨ b = wins then (⟨#[]⟩, false) else if decided To Lead p = 1 then matchGo To Lead wins l (a + 1) b else if decided To Lead p = 2 then matchGo To Lead wins l a (b + 1) else (⟨#[]⟩, false)
theorem code_le (r : Int) : code r = 0 ∨ code r = 1 ∨ code r = 2 := by
  unfold code
  repeat' split
  all_goals simp
theorem decided_le (To Lead : Int) (s : ByteArray) : decided To Lead s = 0 ∨ decided To Lead s = 1 ∨ decided To Lead s = 2 := by
  unfold decided
  split
  · exact code_le _
  · exact Or.inl rfl
theorem text1 : (wonText 1).toList = [97] := by rw [Lib.toList_data]; rfl
theorem text2 : (wonText 2).toList = [98] := by rw [Lib.toList_data]; rfl
theorem text0 : (wonText 0).toList = [45] := by rw [Lib.toList_data]; rfl
section
variable (To Lead wins : Int) (L : List ByteArray) (hL : L.length ≤ 1048576) (hz : ∀ x ∈ L, x.size ≤ 1048576)
include hL hz
theorem matchSpec_l0 (d : Nat) : ∀ (i : Nat) (a b : Int), i + d = L.length → 0 ≤ a ∧ a ≤ i → 0 ≤ b ∧ b ≤ i →
    Ev (fun k => spec_MatchOf.l0 k wins a b L (L.length : Int) (i : Int) To Lead) (matchGo To Lead wins (L.drop i) a b) := by
  induction d with
  | zero =>
    intro i a b hi _ _
    rw [List.drop_of_length_le (by omega)]
    refine ev_some fun k => ?_
    simp only [spec_MatchOf.l0, matchGo]
    rw [if_neg (by omega)]
    repeat' split
    all_goals rfl
  | succ d ih =>
    intro i a b hi h0 h1
    have hlt : i < L.length := by omega
    have hwi : wrap64 ((i : Int) + 1) = ((i + 1 : Nat) : Int) := by rw [wrap_id (by omega) (by omega)]; omega
    have hwa : wrap64 (a + 1) = a + 1 := wrap_id (by omega) (by omega)
    have hwb : wrap64 (b + 1) = b + 1 := wrap_id (by omega) (by omega)
    have hr := rdS L i hlt
    have hs := hz L[i] (List.getElem_mem hlt)
    rw [List.drop_eq_getElem_cons hlt]
    generalize L[i] = p at hr hs ⊢
    have bad : ∀ k, spec_MatchOf.j2 (k + 1) wins a b p L (L.length : Int) (i : Int) true To Lead = some (⟨#[]⟩, false) := fun k => by simp [spec_MatchOf.j2]
    simp only [matchGo]
    by_cases hab : a = wins ∨ b = wins
    · rw [if_pos hab]
      refine Ev.step (f := fun k => spec_MatchOf.j2 k wins a b p L (L.length : Int) (i : Int) true To Lead) (fun k => ?_) (ev_some bad)
      simp only [spec_MatchOf.l0]
      rw [if_pos (by omega), if_pos (by omega), if_pos (by omega), hr]
      rcases hab with h | h
      · rw [if_pos h]
      · by_cases h2 : a = wins
        · rw [if_pos h2]
        · rw [if_neg h2, if_pos h]
    · rw [if_neg hab]
      have na : ¬ a = wins := fun h => hab (Or.inl h)
      have nb : ¬ b = wins := fun h => hab (Or.inr h)
      refine Ev.step (f := fun k => (spec_raIs.f k To Lead p).bind fun t130 => (spec_MatchOf.j2 k wins a b p L (L.length : Int) (i : Int) (!t130) To Lead)) (fun k => ?_) ?_
      · simp only [spec_MatchOf.l0]
        rw [if_pos (by omega), if_pos (by omega), if_pos (by omega), hr, if_neg na, if_neg nb]
      · refine Ev.bind (raIs_ev To Lead p hs) ?_
        have hsd := raSide_ev To Lead p hs
        cases hi : isB To Lead p
        · have hd : decided To Lead p = 0 := by unfold decided; rw [hi]; rfl
          rw [hd, if_neg (by decide), if_neg (by decide)]
          exact ev_some bad
        · have hd : decided To Lead p = code (Rw To Lead (cntS To Lead p).1 (cntS To Lead p).2.1) := by unfold decided; rw [hi]; rfl
          rw [← hd] at hsd
          refine Ev.step (f := fun k => (spec_raSide.f k To Lead p).bind fun t131 => (if t131.toList = ([97] : List UInt8) then (spec_MatchOf.l0 k wins (wrap64 (a + 1)) b L (L.length : Int) (wrap64 ((i : Int) + 1)) To Lead) else (if t131.toList = ([98] : List UInt8) then (spec_MatchOf.l0 k wins a (wrap64 (b + 1)) L (L.length : Int) (wrap64 ((i : Int) + 1)) To Lead) else (some ((⟨#[]⟩ : ByteArray), false))))) (fun k => by simp [spec_MatchOf.j2]) ?_
          refine Ev.bind hsd ?_
          rw [hwi, hwa, hwb]
          rcases decided_le To Lead p with h | h | h
          · rw [h, text0, if_neg (by decide), if_neg (by decide)]
            exact ev_const fun k => by rw [if_neg (by decide), if_neg (by decide)]
          · rw [h, text1, if_pos rfl]
            simp only [if_true]
            exact ih (i + 1) (a + 1) b (by omega) (by omega) (by omega)
          · rw [h, text2, if_neg (by decide), if_pos rfl]
            simp only [if_true, show ¬ (([98] : List UInt8) = [97]) by decide, if_false]
            exact ih (i + 1) a (b + 1) (by omega) (by omega) (by omega)
theorem winner_eq (p : ByteArray) : impl_WinnerOf.f To Lead p = some (if isB To Lead p = true then (wonText (decided To Lead p), true) else (⟨#[]⟩, false)) := by
  unfold impl_WinnerOf.f
  cases hi : isB To Lead p
  · rw [played_no hi]
    rfl
  · rw [played_yes hi]
    have hd : decided To Lead p = code (Rw To Lead (cntS To Lead p).1 (cntS To Lead p).2.1) := by unfold decided; rw [hi]; rfl
    rw [hd]
    rfl
theorem matchImpl_l0 (h9 : L.length ≤ 9) (d : Nat) : ∀ (i : Nat) (ws : List ByteArray), i + d = L.length → ws.length = i → (ws.all fun x => decide (x.size ≤ 1000)) = true →
    Ev (fun k => impl_MatchOf.l0 k wins ws L (L.length : Int) (i : Int) To Lead) (if (L.drop i).all (fun p => decide (decided To Lead p ≠ 0)) = true then ftGo wins (ws ++ (L.drop i).map fun p => wonText (decided To Lead p)) [] ⟨#[45]⟩ else (⟨#[]⟩, false)) := by
  induction d with
  | zero =>
    intro i ws hi hw hws
    rw [List.drop_of_length_le (by omega)]
    refine ev_some fun k => ?_
    simp only [impl_MatchOf.l0]
    rw [if_neg (by omega)]
    unfold impl_firstTo.f
    rw [if_pos ⟨by omega, hws⟩]
    simp
  | succ d ih =>
    intro i ws hi hw hws
    have hlt : i < L.length := by omega
    have hwi : wrap64 ((i : Int) + 1) = ((i + 1 : Nat) : Int) := by rw [wrap_id (by omega) (by omega)]; omega
    have hr := rdS L i hlt
    rw [List.drop_eq_getElem_cons hlt, List.all_cons, List.map_cons]
    generalize L[i] = p at hr ⊢
    have hwin := winner_eq To Lead L hL hz p
    have step : ∀ k, impl_MatchOf.l0 (k + 1) wins ws L (L.length : Int) (i : Int) To Lead = (if isB To Lead p = true then (if (wonText (decided To Lead p)).toList = ([45] : List UInt8) then (some ((⟨#[]⟩ : ByteArray), false)) else (impl_MatchOf.l0 k wins (ws ++ [wonText (decided To Lead p)]) L (L.length : Int) ((i + 1 : Nat) : Int) To Lead)) else some (⟨#[]⟩, false)) := by
      intro k
      simp only [impl_MatchOf.l0]
      rw [if_pos (by omega), if_pos (by omega), if_pos (by omega), hr, hwin, hwi]
      cases isB To Lead p
      · rfl
      · simp only [Option.bind_some, if_true]
        rw [if_pos (show ws.length < 8796093022208 by omega)]
    cases hb : isB To Lead p
    · have hd : decided To Lead p = 0 := by unfold decided; rw [hb]; rfl
      rw [hd]
      simp only [ne_eq, not_true_eq_false, decide_false, Bool.false_and, Bool.false_eq_true, if_false]
      refine ev_some fun k => ?_
      rw [step k, hb]
      rfl
    · rcases decided_le To Lead p with h | h | h
      · rw [h]
        simp only [ne_eq, not_true_eq_false, decide_false, Bool.false_and, Bool.false_eq_true, if_false]
        refine ev_some fun k => ?_
        rw [step k, hb, h, if_pos rfl, if_pos text0]
      · have hn := ih (i + 1) (ws ++ [wonText 1]) (by omega) (by simp [hw]) (by rw [List.all_append, hws]; rfl)
        rw [List.append_assoc] at hn
        rw [h]
        simp only [ne_eq, Nat.one_ne_zero, not_false_eq_true, decide_true, Bool.true_and]
        refine Ev.step (fun k => ?_) hn
        rw [step k, hb, h, if_pos rfl, text1, if_neg (by decide)]
      · have hn := ih (i + 1) (ws ++ [wonText 2]) (by omega) (by simp [hw]) (by rw [List.all_append, hws]; rfl)
        rw [List.append_assoc] at hn
        rw [h]
        have h20 : ¬ (2 = 0) := by decide
        simp only [ne_eq, h20, not_false_eq_true, decide_true, Bool.true_and]
        refine Ev.step (fun k => ?_) hn
        rw [step k, hb, h, if_pos rfl, text2, if_neg (by decide)]
end
theorem matchGo_und (To Lead wins : Int) (l : List ByteArray) : ∀ a b : Int, l.all (fun p => decide (decided To Lead p ≠ 0)) = false → matchGo To Lead wins l a b = (⟨#[]⟩, false) := by
  induction l with
  | nil => intro a b h; simp at h
  | cons p l ih =>
    intro a b h
    rw [List.all_cons] at h
    simp only [matchGo]
    by_cases hab : a = wins ∨ b = wins
    · rw [if_pos hab]
    · rw [if_neg hab]
      rcases decided_le To Lead p with hd | hd | hd
      · rw [hd, if_neg (by decide), if_neg (by decide)]
      · rw [hd] at h
        rw [hd, if_pos rfl]
        exact ih (a + 1) b (by simpa using h)
      · rw [hd] at h
        rw [hd, if_neg (by decide), if_pos rfl]
        exact ih a (b + 1) (by simpa using h)
def wonNow (wins a b : Int) : ByteArray := if wins = a then (⟨#[97]⟩ : ByteArray) else if wins = b then (⟨#[98]⟩ : ByteArray) else (⟨#[45]⟩ : ByteArray)
theorem wonNow_list (wins a b : Int) : (wonNow wins a b).toList = [45] ↔ ¬ (a = wins ∨ b = wins) := by
  unfold wonNow
  by_cases h1 : wins = a
  · rw [if_pos h1, Lib.toList_data]
    simp [h1]
  · rw [if_neg h1]
    by_cases h2 : wins = b
    · rw [if_pos h2, Lib.toList_data]
      simp [h2]
    · rw [if_neg h2, Lib.toList_data]
      simp
      omega
theorem ft_match (To Lead wins : Int) (l : List ByteArray) : ∀ (done : List (List UInt8)) (a b : Int), l.all (fun p => decide (decided To Lead p ≠ 0)) = true → a = (done.count [97] : Int) → b = (done.count [98] : Int) →
    ftGo wins (l.map fun p => wonText (decided To Lead p)) done (wonNow wins a b) = matchGo To Lead wins l a b := by
  induction l with
  | nil =>
    intro done a b _ _ _
    rfl
  | cons p l ih =>
    intro done a b h ha hb
    rw [List.all_cons, Bool.and_eq_true] at h
    simp only [List.map_cons, ftGo, matchGo]
    by_cases hab : a = wins ∨ b = wins
    · rw [if_neg (fun h' => (wonNow_list wins a b).1 h' hab), if_pos hab]
    · rw [if_pos ((wonNow_list wins a b).2 hab), if_neg hab]
      have na : ¬ wins = a := fun h' => hab (Or.inl h'.symm)
      have nb : ¬ wins = b := fun h' => hab (Or.inr h'.symm)
      rcases decided_le To Lead p with hd | hd | hd
      · rw [hd] at h
        exact absurd h.1 (by decide)
      · rw [hd, if_pos rfl]
        have e : (wonText 1).data.toList = [97] := rfl
        rw [e]
        have c1 : ((done ++ [[97]]).count [97] : Int) = a + 1 := by rw [List.count_append, ha]; simp
        have c2 : ((done ++ [[97]]).count [98] : Int) = b := by rw [List.count_append, hb]; simp
        rw [← ih (done ++ [[97]]) (a + 1) b h.2 c1.symm c2.symm, c1]
        congr 1
        unfold wonNow
        by_cases h3 : a + 1 = wins
        · rw [if_pos h3, if_pos h3.symm]
          rfl
        · rw [if_neg h3, if_neg na, if_neg nb, if_neg (show ¬ wins = a + 1 from fun h' => h3 h'.symm)]
      · rw [hd, if_neg (show ¬ (2 : Nat) = 1 by decide), if_pos (show (2 : Nat) = 2 from rfl)]
        have e : (wonText 2).data.toList = [98] := rfl
        rw [e]
        have c1 : ((done ++ [[98]]).count [97] : Int) = a := by rw [List.count_append, ha]; simp
        have c2 : ((done ++ [[98]]).count [98] : Int) = b + 1 := by rw [List.count_append, hb]; simp
        rw [← ih (done ++ [[98]]) a (b + 1) h.2 c1.symm c2.symm, c2]
        congr 1
        unfold wonNow
        by_cases h3 : b + 1 = wins
        · rw [if_pos h3, if_neg na, if_pos h3.symm]
          rfl
        · rw [if_neg h3, if_neg na, if_neg nb, if_neg (show ¬ wins = b + 1 from fun h' => h3 h'.symm), if_neg na]

theorem FnExactMatchOf : ∀ (a0_0 : Int) (a0_1 : Int) (l1 : List ByteArray) (a2 : Int), (Lit.int .i64 a0_0).wf = true → (Lit.int .i64 a0_1).wf = true → (∀ x ∈ l1, x.size ≤ 9223372036854775807) → l1.length ≤ 9223372036854775807 → (Lit.int .i64 a2).wf = true → ∃ k, laws_FnExactMatchOf.f k a0_0 a0_1 l1 a2 = some true := by
  intro To Lead l wins _ _ hz hl _
  refine Ev.rounds ?_
  unfold laws_FnExactMatchOf.f
  obtain ⟨t, ht, hc⟩ := szStringS_ev l hl hz
  refine Ev.bind ht ?_
  by_cases h : t < 0
  · simp only [h, if_true]
    exact Ev.now _
  · obtain ⟨hl2, hz2⟩ := hc.resolve_left h
    simp only [h, if_false, toRace_eq, Option.bind_some]
    refine Ev.bind (toStringS_ev l hl2) ?_
    have both : ∃ v : ByteArray × Bool, Ev (fun k => spec_MatchOf.f k To Lead l wins) v ∧ Ev (fun k => impl_MatchOf.f k To Lead l wins) v := by
      unfold spec_MatchOf.f impl_MatchOf.f
      rw [raGood_eq, isRace_eq]
      simp only [Option.bind_some]
      have no1 : Ev (fun k => spec_MatchOf.j0 k l wins true To Lead) (⟨#[]⟩, false) := ev_some fun k => by simp [spec_MatchOf.j0]
      have no2 : Ev (fun k => impl_MatchOf.j0 k l wins true To Lead) (⟨#[]⟩, false) := ev_some fun k => by simp [impl_MatchOf.j0]
      cases hg : goodR To Lead
      · exact ⟨_, no1, no2⟩
      · simp only [if_true]
        by_cases h9 : (l.length : Int) > 9
        · simp only [if_pos h9]
          exact ⟨_, no1, no2⟩
        · simp only [if_neg h9, l1In_eq, within_eq, Option.bind_some]
          cases hw : decide (1 ≤ wins ∧ wins ≤ 5)
          · simp only [Bool.not_false]
            exact ⟨_, no1, no2⟩
          · have hw2 := of_decide_eq_true hw
            simp only [Bool.not_true]
            have hs := matchSpec_l0 To Lead wins l hl2 hz2 l.length 0 0 0 (by omega) (by omega) (by omega)
            have hi := matchImpl_l0 To Lead wins l hl2 hz2 (by omega) l.length 0 [] (by omega) rfl rfl
            simp only [List.drop_zero, List.nil_append] at hs hi
            have e0 : wonNow wins 0 0 = ⟨#[45]⟩ := by unfold wonNow; rw [if_neg (by omega), if_neg (by omega)]
            refine ⟨matchGo To Lead wins l 0 0, Ev.step (f := fun k => spec_MatchOf.l0 k wins 0 0 l (l.length : Int) 0 To Lead) (fun k => by simp [spec_MatchOf.j0]) (by simpa using hs), Ev.step (f := fun k => impl_MatchOf.l0 k wins (([] : List ByteArray)) l (l.length : Int) 0 To Lead) (fun k => by simp [impl_MatchOf.j0]) ?_⟩
            cases ha : l.all (fun p => decide (decided To Lead p ≠ 0))
            · rw [matchGo_und To Lead wins l 0 0 ha]
              rw [ha] at hi
              simpa using hi
            · rw [← ft_match To Lead wins l [] 0 0 ha (by simp) (by simp), e0]
              rw [ha] at hi
              simpa using hi
    obtain ⟨v, hv1, hv2⟩ := both
    refine Ev.bind hv1 ?_
    refine Ev.bind (toStringS_ev l hl2) ?_
    refine Ev.bind hv2 ?_
    simp only [bne_self_eq_false, if_true]
    refine Ev.step (f := fun k => (laws_toStringS.f k l).bind fun t194 => ((laws_eqStringS.f k l t194).bind fun t197 => (if t197 = true then (some true) else (some false)))) (fun k => by simp [laws_FnExactMatchOf.j0]) ?_
    refine Ev.bind (toStringS_ev l hl2) ?_
    refine Ev.bind (eqStringS_ev l hl2) ?_
    exact Ev.now _

end Go.Proofs.YtlfbpidklpjieaaDoor.Pure
