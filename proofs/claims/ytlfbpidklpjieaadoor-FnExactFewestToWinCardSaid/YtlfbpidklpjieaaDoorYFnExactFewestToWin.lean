/- What the printed functions of FnExactFewestToWin compute answers true, at every argument of its types. No condition beside the types' own bounds. -/
import Derived.Test.YtlfbpidklpjieaaDoorGPoints
import Derived.Test.YtlfbpidklpjieaaDoorGFollow
import Derived.Test.YtlfbpidklpjieaaDoorQFnExactFewestToWinx
namespace Go.Proofs.YtlfbpidklpjieaaDoor.Pure
open Go.RowKit Go.Proofs.YtlfbpidklpjieaaDoor.QFnExactFewestToWin Go.Proofs.YtlfbpidklpjieaaDoorW.PrintWords Go.Proofs.YtlfbpidklpjieaaDoorW.PrintLast Go.Proofs.YtlfbpidklpjieaaDoorW.PrintMore
set_option linter.unusedVariables false
set_option linter.unusedSimpArgs false
set_option linter.unusedSectionVars false

theorem ev_some {α : Type} {g : Nat → Option α} {r : α} (h : ∀ k, g (k + 1) = some r) : Ev g r := Ev.step h (Ev.now r)
theorem ev_const {α : Type} {g : Nat → Option α} {r : α} (h : ∀ k, g k = some r) : Ev g r := ⟨0, fun k _ => h k⟩
theorem wrap_id {i : Int} (h0 : -9223372036854775808 ≤ i) (h1 : i ≤ 9223372036854775807) : wrap64 i = i := by unfold wrap64; omega

theorem l1In_eq (a b c : Int) : spec_l1In.f a b c = some (decide (b ≤ a ∧ a ≤ c)) := by
  unfold spec_l1In.f
  by_cases h : a ≥ b
  · rw [if_pos h]
    have h2 : b ≤ a := h
    simp [h2]
  · rw [if_neg h]
    have h2 : ¬ b ≤ a := h
    simp [h2]
theorem within_eq (a b c : Int) : impl_within.f a b c = some (decide (b ≤ a ∧ a ≤ c)) := by
  unfold impl_within.f
  by_cases h : b ≤ a
  · rw [if_pos h]
    simp [h]
  · rw [if_neg h]
    simp [h]

theorem b97 (c : UInt8) : ((c.toNat : Int) = 97) ↔ c = 97 := by
  constructor
  · intro h
    apply UInt8.toNat_inj.1
    show c.toNat = 97
    omega
  · rintro rfl
    rfl
theorem b98 (c : UInt8) : ((c.toNat : Int) = 98) ↔ c = 98 := by
  constructor
  · intro h
    apply UInt8.toNat_inj.1
    show c.toNat = 98
    omega
  · rintro rfl
    rfl
theorem len_data (s : ByteArray) : s.data.toList.length = s.size := by simp
theorem bt_nat (s : ByteArray) (n : Nat) (h : n < s.data.toList.length) : bt s (n : Int) = ((s.data.toList[n]).toNat : Int) := by
  have h2 : n < s.size := by rw [len_data] at h; exact h
  unfold bt
  rw [dif_pos (by simpa using h2)]
  rfl
def pointsB (s : ByteArray) : Bool := decide (s.size ≤ 100) && s.data.toList.all abB
theorem raPoints_l0 (s : ByteArray) (hs : s.size ≤ 1048576) (d : Nat) : ∀ i : Nat, i + d = s.size → Ev (fun k => spec_raPoints.l0 k s (i : Int)) ((s.data.toList.drop i).all abB) := by
  induction d with
  | zero =>
    intro i hi
    refine ev_some fun k => ?_
    simp only [spec_raPoints.l0]
    rw [if_neg (by omega), List.drop_of_length_le (by rw [len_data]; omega)]
    rfl
  | succ d ih =>
    intro i hi
    have hlt : i < s.data.toList.length := by rw [len_data]; omega
    have hn := ih (i + 1) (by omega)
    have hw : wrap64 ((i : Int) + 1) = ((i + 1 : Nat) : Int) := by rw [wrap_id (by omega) (by omega)]; omega
    have hbt := bt_nat s i hlt
    rw [List.drop_eq_getElem_cons hlt, List.all_cons]
    generalize s.data.toList[i] = c at hbt ⊢
    by_cases c1 : c = 97
    · have : abB c = true := by rw [c1]; rfl
      rw [this, Bool.true_and]
      refine Ev.step (fun k => ?_) hn
      simp only [spec_raPoints.l0]
      rw [if_pos (by omega), if_pos (by omega), hbt, if_pos ((b97 _).2 c1), hw]
    · by_cases c2 : c = 98
      · have : abB c = true := by rw [c2]; rfl
        rw [this, Bool.true_and]
        refine Ev.step (fun k => ?_) hn
        simp only [spec_raPoints.l0]
        rw [if_pos (by omega), if_pos (by omega), hbt, if_neg (fun h => c1 ((b97 _).1 h)), if_pos ((b98 _).2 c2), hw]
      · have : abB c = false := by simp [abB, c1, c2]
        rw [this, Bool.false_and]
        refine ev_some fun k => ?_
        simp only [spec_raPoints.l0]
        rw [if_pos (by omega), if_pos (by omega), hbt, if_neg (fun h => c1 ((b97 _).1 h)), if_neg (fun h => c2 ((b98 _).1 h))]
theorem raPoints_ev (s : ByteArray) (hs : s.size ≤ 1048576) : Ev (fun k => spec_raPoints.f k s) (pointsB s) := by
  unfold spec_raPoints.f pointsB
  by_cases h : (s.size : Int) > 100
  · simp only [if_pos h]
    have : ¬ s.size ≤ 100 := by omega
    simp only [this, decide_false, Bool.false_and]
    exact Ev.now _
  · simp only [if_neg h]
    have : s.size ≤ 100 := by omega
    simp only [this, decide_true, Bool.true_and]
    have := raPoints_l0 s hs s.size 0 (by omega)
    simpa using this
theorem isPoints_eq (s : ByteArray) : impl_isPoints.f s 100 = some (pointsB s) := by
  unfold impl_isPoints.f pointsB
  by_cases h : (s.size : Int) ≤ 100
  · rw [if_pos h, if_pos (by omega)]
    have : s.size ≤ 100 := by omega
    simp [this]
  · rw [if_neg h]
    have : ¬ s.size ≤ 100 := by omega
    simp [this]

def goodR (a b : Int) : Bool := decide (1 ≤ a ∧ a ≤ 30) && decide (1 ≤ b ∧ b ≤ 5)
theorem raGood_eq (a b : Int) : spec_raGood.f a b = some (goodR a b) := by
  unfold spec_raGood.f goodR
  rw [l1In_eq, Option.bind_some]
  cases decide (1 ≤ a ∧ a ≤ 30)
  · rfl
  · rw [if_pos rfl, l1In_eq]; rfl
theorem isRace_eq (a b : Int) : impl_IsRace.f a b = some (goodR a b) := by
  unfold impl_IsRace.f goodR
  rw [within_eq, Option.bind_some]
  cases decide (1 ≤ a ∧ a ≤ 30)
  · rfl
  · rw [if_pos rfl, within_eq]; rfl
theorem toRace_eq (a b : Int) : laws_toRace.f a b = some (a, b) := rfl

def Rw (To Lead a b : Int) : Int := if a ≥ To ∧ a - b ≥ Lead then 1 else if b ≥ To ∧ b - a ≥ Lead then -1 else 0
theorem raWon_ev (To Lead a b : Int) (ha : 0 ≤ a ∧ a ≤ 2000000) (hb : 0 ≤ b ∧ b ≤ 2000000) : Ev (fun k => spec_raWon.f k To Lead a b) (Rw To Lead a b) := by
  have hw1 : wrap64 (a - b) = a - b := wrap_id (by omega) (by omega)
  have hw2 : wrap64 (b - a) = b - a := wrap_id (by omega) (by omega)
  have j0 : ∀ x : Bool, Ev (fun k => spec_raWon.j0 k a b x To Lead) (if x = true then 1 else if b ≥ To ∧ b - a ≥ Lead then -1 else 0) := by
    intro x
    refine ev_some fun k => ?_
    simp only [spec_raWon.j0, hw2]
    cases x
    · simp only [Bool.false_eq_true, if_false]
      by_cases h1 : b ≥ To
      · rw [if_pos h1]
        by_cases h2 : b - a ≥ Lead
        · rw [if_pos h2, if_pos ⟨h1, h2⟩]
        · rw [if_neg h2, if_neg (fun h => h2 h.2)]
      · rw [if_neg h1, if_neg (fun h => h1 h.1)]
    · simp
  unfold spec_raWon.f Rw
  by_cases h1 : a ≥ To
  · simp only [if_pos h1, hw1]
    have := j0 (decide (a - b ≥ Lead))
    by_cases h2 : a - b ≥ Lead
    · rw [if_pos ⟨h1, h2⟩]
      simpa [h2] using this
    · rw [if_neg (fun h => h2 h.2)]
      simpa [h2] using this
  · simp only [if_neg h1]
    rw [if_neg (fun h => h1 h.1)]
    have := j0 false
    simpa using this
theorem Rw_three (To Lead a b : Int) : Rw To Lead a b = 1 ∨ Rw To Lead a b = -1 ∨ Rw To Lead a b = 0 := by
  unfold Rw
  repeat' split
  all_goals simp
def cnt (To Lead : Int) : List UInt8 → Int → Int → Int × Int × Bool
  | [], a, b => (a, b, true)
  | c :: l, a, b => if Rw To Lead a b = 0 then (if c = 97 then cnt To Lead l (a + 1) b else cnt To Lead l a (b + 1)) else (a, b, false)
theorem raCount_l0 (To Lead : Int) (s : ByteArray) (hs : s.size ≤ 1048576) (d : Nat) : ∀ (i : Nat) (a b : Int), i + d = s.size → 0 ≤ a → 0 ≤ b → a + b ≤ i →
    Ev (fun k => spec_raCount.l0 k s a b (i : Int) To Lead) (cnt To Lead (s.data.toList.drop i) a b) := by
  induction d with
  | zero =>
    intro i a b hi ha hb hab
    refine ev_some fun k => ?_
    simp only [spec_raCount.l0]
    rw [if_neg (by omega), List.drop_of_length_le (by rw [len_data]; omega)]
    rfl
  | succ d ih =>
    intro i a b hi ha hb hab
    have hlt : i < s.data.toList.length := by rw [len_data]; omega
    have hw : wrap64 ((i : Int) + 1) = ((i + 1 : Nat) : Int) := by rw [wrap_id (by omega) (by omega)]; omega
    have hwa : wrap64 (a + 1) = a + 1 := wrap_id (by omega) (by omega)
    have hwb : wrap64 (b + 1) = b + 1 := wrap_id (by omega) (by omega)
    have hlt2 : (i : Int) < (s.size : Int) := by omega
    have h0i : (0 : Int) ≤ (i : Int) := by omega
    rw [List.drop_eq_getElem_cons hlt]
    refine Ev.step (f := fun k => (spec_raWon.f k To Lead a b).bind fun t => (if t = 0 then (if 0 ≤ (i : Int) then (if (bt s i) = 97 then (spec_raCount.l0 k s (wrap64 (a + 1)) b (wrap64 ((i : Int) + 1)) To Lead) else (spec_raCount.l0 k s a (wrap64 (b + 1)) (wrap64 ((i : Int) + 1)) To Lead)) else (none)) else (some (a, b, false)))) (fun k => ?_) ?_
    · simp only [spec_raCount.l0]
      rw [if_pos hlt2]
    · refine Ev.bind (raWon_ev To Lead a b (by omega) (by omega)) ?_
      simp only [cnt]
      by_cases hR : Rw To Lead a b = 0
      · simp only [hR, if_true, h0i, hw, hwa, hwb, bt_nat s i hlt]
        by_cases c1 : s.data.toList[i] = 97
        · simp only [(b97 _).2 c1, if_true, c1]
          exact ih (i + 1) (a + 1) b (by omega) (by omega) hb (by omega)
        · have c2 : ¬ ((s.data.toList[i].toNat : Int) = 97) := fun h => c1 ((b97 _).1 h)
          simp only [c2, c1, if_false]
          exact ih (i + 1) a (b + 1) (by omega) ha (by omega) (by omega)
      · simp only [hR, if_false]
        exact Ev.now _
def cntS (To Lead : Int) (s : ByteArray) : Int × Int × Bool := cnt To Lead s.data.toList 0 0
theorem raCount_ev (To Lead : Int) (s : ByteArray) (hs : s.size ≤ 1048576) : Ev (fun k => spec_raCount.f k To Lead s) (cntS To Lead s) := by
  have := raCount_l0 To Lead s hs s.size 0 0 0 (by omega) (Int.le_refl 0) (Int.le_refl 0) (by omega)
  simpa [spec_raCount.f, cntS] using this
theorem cnt_bd (To Lead : Int) (l : List UInt8) : ∀ a b : Int, 0 ≤ a → 0 ≤ b → 0 ≤ (cnt To Lead l a b).1 ∧ 0 ≤ (cnt To Lead l a b).2.1 ∧ (cnt To Lead l a b).1 + (cnt To Lead l a b).2.1 ≤ a + b + l.length := by
  induction l with
  | nil => intro a b ha hb; simp [cnt, ha, hb]
  | cons c l ih =>
    intro a b ha hb
    simp only [cnt, List.length_cons]
    split
    · split
      · have := ih (a + 1) b (by omega) hb; omega
      · have := ih a (b + 1) ha (by omega); omega
    · simp only; omega
theorem cntS_bd (To Lead : Int) (s : ByteArray) (hs : s.size ≤ 1048576) : (0 ≤ (cntS To Lead s).1 ∧ (cntS To Lead s).1 ≤ 1048576) ∧ (0 ≤ (cntS To Lead s).2.1 ∧ (cntS To Lead s).2.1 ≤ 1048576) := by
  have := cnt_bd To Lead s.data.toList 0 0 (Int.le_refl 0) (Int.le_refl 0)
  rw [len_data] at this
  unfold cntS
  omega
def code (r : Int) : Nat := if r = 1 then 1 else if r = -1 then 2 else 0
theorem code_won (To Lead a b : Int) (n : Nat) (hn : n = 0) : (if wonB To Lead a b = true then 1 else if wonB To Lead b a = true then 2 else n) = code (Rw To Lead a b) := by
  subst hn
  unfold wonB Rw code
  by_cases h1 : a ≥ To ∧ a - b ≥ Lead
  · have e1 : (decide (To ≤ a) && decide (Lead ≤ a - b)) = true := by simp; omega
    simp [h1, e1]
  · have e1 : (decide (To ≤ a) && decide (Lead ≤ a - b)) = false := by
      cases h : (decide (To ≤ a) && decide (Lead ≤ a - b))
      · rfl
      · exfalso; apply h1; simp at h; omega
    rw [e1, if_neg h1]
    by_cases h2 : b ≥ To ∧ b - a ≥ Lead
    · have e2 : (decide (To ≤ b) && decide (Lead ≤ b - a)) = true := by simp; omega
      simp [h2, e2]
    · have e2 : (decide (To ≤ b) && decide (Lead ≤ b - a)) = false := by
        cases h : (decide (To ≤ b) && decide (Lead ≤ b - a))
        · rfl
        · exfalso; apply h2; simp at h; omega
      rw [e2, if_neg h2]
      simp
theorem fold_false (To Lead : Int) (l : List UInt8) : ∀ st : Stand, st.play = false → (l.foldl (Stand.step To Lead) st).play = false := by
  induction l with
  | nil => intro st h; exact h
  | cons c l ih =>
    intro st h
    refine ih (st.step To Lead c) ?_
    simp [Stand.step, h]
theorem run_cnt (To Lead : Int) (l : List UInt8) : ∀ st : Stand, st.play = true → st.won = code (Rw To Lead st.a st.b) →
    (l.foldl (Stand.step To Lead) st).play = (cnt To Lead l st.a st.b).2.2 ∧ ((cnt To Lead l st.a st.b).2.2 = true → (l.foldl (Stand.step To Lead) st).a = (cnt To Lead l st.a st.b).1 ∧ (l.foldl (Stand.step To Lead) st).b = (cnt To Lead l st.a st.b).2.1 ∧ (l.foldl (Stand.step To Lead) st).won = code (Rw To Lead (cnt To Lead l st.a st.b).1 (cnt To Lead l st.a st.b).2.1)) := by
  induction l with
  | nil => intro st hp hw; exact ⟨hp, fun _ => ⟨rfl, rfl, hw⟩⟩
  | cons c l ih =>
    intro st hp hw
    rw [List.foldl_cons]
    by_cases hR : Rw To Lead st.a st.b = 0
    · have h0 : st.won = 0 := by rw [hw, hR]; rfl
      have e : cnt To Lead (c :: l) st.a st.b = cnt To Lead l (st.step To Lead c).a (st.step To Lead c).b := by
        simp only [cnt, Stand.step]
        rw [if_pos hR]
        by_cases hc : c = 97
        · simp [hc]
        · simp [hc]
      rw [e]
      refine ih (st.step To Lead c) (by simp [Stand.step, hp, h0]) ?_
      rw [← code_won To Lead _ _ st.won h0]
      simp [Stand.step, hp, h0]
    · have h0 : st.won ≠ 0 := by
        rw [hw]
        rcases Rw_three To Lead st.a st.b with h | h | h
        · rw [h]; decide
        · rw [h]; decide
        · exact absurd h hR
      have e : cnt To Lead (c :: l) st.a st.b = (st.a, st.b, false) := by simp only [cnt]; rw [if_neg hR]
      rw [e]
      refine ⟨fold_false To Lead l _ (by simp [Stand.step, h0]), fun h => by cases h⟩
theorem points_ascii {s : ByteArray} (h : pointsB s = true) : s.size ≤ 100 ∧ s.data.toList.all (fun c => decide (c.toNat < 128)) = true := by
  unfold pointsB at h
  rw [Bool.and_eq_true] at h
  refine ⟨of_decide_eq_true h.1, ?_⟩
  rw [List.all_eq_true]
  intro c hc
  have := List.all_eq_true.1 h.2 c hc
  unfold abB at this
  simp only [Bool.or_eq_true, beq_iff_eq] at this
  rcases this with rfl | rfl <;> rfl
theorem follow_eq {To Lead : Int} (hT : 1 ≤ To) {s : ByteArray} (h : pointsB s = true) : ∃ a b t, impl_follow.f To Lead s = some (a, b, t, (cntS To Lead s).2.2) ∧ ((cntS To Lead s).2.2 = true → a = (cntS To Lead s).1 ∧ b = (cntS To Lead s).2.1 ∧ t = wonText (code (Rw To Lead (cntS To Lead s).1 (cntS To Lead s).2.1))) := by
  obtain ⟨h1, h2⟩ := points_ascii h
  have h0 : Rw To Lead 0 0 = 0 := by
    unfold Rw
    rw [if_neg (by omega), if_neg (by omega)]
  obtain ⟨hp, hr⟩ := run_cnt To Lead s.data.toList ⟨0, 0, 0, true⟩ rfl (by simp only [h0]; rfl)
  unfold impl_follow.f
  rw [if_pos ⟨by omega, h2⟩]
  refine ⟨_, _, _, by rw [show (Stand.run To Lead s.data.toList).play = (cntS To Lead s).2.2 from hp], fun ht => ?_⟩
  obtain ⟨e1, e2, e3⟩ := hr ht
  exact ⟨e1, e2, by rw [show (Stand.run To Lead s.data.toList).won = _ from e3]; rfl⟩
def isB (To Lead : Int) (s : ByteArray) : Bool := goodR To Lead && (pointsB s && (cntS To Lead s).2.2)
theorem goodR_to {To Lead : Int} (h : goodR To Lead = true) : (1 ≤ To ∧ To ≤ 30) ∧ (1 ≤ Lead ∧ Lead ≤ 5) := by
  unfold goodR at h
  rw [Bool.and_eq_true] at h
  exact ⟨of_decide_eq_true h.1, of_decide_eq_true h.2⟩
theorem isPlay_eq (To Lead : Int) (s : ByteArray) : impl_IsPlay.f To Lead s = some (isB To Lead s, goodR To Lead && pointsB s) := by
  unfold impl_IsPlay.f isB
  rw [isRace_eq, Option.bind_some]
  cases hg : goodR To Lead
  · rfl
  · rw [if_pos rfl, isPoints_eq, Option.bind_some]
    cases hp : pointsB s
    · rfl
    · obtain ⟨a, b, t, hf, _⟩ := follow_eq (Lead := Lead) (goodR_to hg).1.1 hp
      rw [if_pos rfl, hf]
      rfl

theorem raIs_ev (To Lead : Int) (s : ByteArray) (hs : s.size ≤ 1048576) : Ev (fun k => spec_raIs.f k To Lead s) (isB To Lead s) := by
  unfold spec_raIs.f isB
  rw [raGood_eq]
  simp only [Option.bind_some]
  cases goodR To Lead
  · exact Ev.now _
  · simp only [if_true, Bool.true_and]
    refine Ev.bind (raPoints_ev s hs) ?_
    cases pointsB s
    · exact Ev.now _
    · simp only [if_true, Bool.true_and]
      exact Ev.bind (raCount_ev To Lead s hs) (Ev.now _)
theorem isB_parts {To Lead : Int} {s : ByteArray} (h : isB To Lead s = true) : goodR To Lead = true ∧ pointsB s = true ∧ (cntS To Lead s).2.2 = true := by
  unfold isB at h
  simp only [Bool.and_eq_true] at h
  exact ⟨h.1, h.2.1, h.2.2⟩
theorem played_yes {To Lead : Int} {s : ByteArray} (h : isB To Lead s = true) : impl_played.f To Lead s = some ((cntS To Lead s).1, (cntS To Lead s).2.1, wonText (code (Rw To Lead (cntS To Lead s).1 (cntS To Lead s).2.1)), true, true) := by
  obtain ⟨hg, hp, hc⟩ := isB_parts h
  obtain ⟨a, b, t, hf, hr⟩ := follow_eq (Lead := Lead) (goodR_to hg).1.1 hp
  obtain ⟨rfl, rfl, rfl⟩ := hr hc
  unfold impl_played.f
  rw [isPlay_eq, Option.bind_some, h, hg, hp, hf, hc]
  rfl
theorem played_no {To Lead : Int} {s : ByteArray} (h : isB To Lead s = false) : impl_played.f To Lead s = some (0, 0, (⟨#[]⟩ : ByteArray), false, false) := by
  unfold impl_played.f
  rw [isPlay_eq, Option.bind_some, h]
  cases (goodR To Lead && pointsB s) <;> rfl

theorem Rw_one {To Lead a b : Int} : Rw To Lead a b = 1 ↔ wonB To Lead a b = true := by
  unfold Rw wonB
  by_cases h1 : a ≥ To ∧ a - b ≥ Lead
  · rw [if_pos h1]
    simp
    omega
  · rw [if_neg h1]
    simp
    by_cases h2 : b ≥ To ∧ b - a ≥ Lead
    · rw [if_pos h2]
      simp
      omega
    · rw [if_neg h2]
      simp
      omega
theorem Rw_neg {To Lead a b : Int} (hL : 1 ≤ Lead) : Rw To Lead a b = -1 ↔ wonB To Lead b a = true := by
  unfold Rw wonB
  by_cases h1 : a ≥ To ∧ a - b ≥ Lead
  · rw [if_pos h1]
    simp
    omega
  · rw [if_neg h1]
    by_cases h2 : b ≥ To ∧ b - a ≥ Lead
    · rw [if_pos h2]
      simp
      omega
    · rw [if_neg h2]
      simp
      omega

theorem FnExactFewestToWin : ∀ (a0_0 : Int) (a0_1 : Int) (a1 : ByteArray) (a2 : ByteArray), (Lit.int .i64 a0_0).wf = true → (Lit.int .i64 a0_1).wf = true → a1.size ≤ 140737488351232 → a2.size ≤ 140737488351232 → ∃ k, laws_FnExactFewestToWin.f k a0_0 a0_1 a1 a2 = some true := by
  intro To Lead s side _ _ _ _
  refine Ev.rounds ?_
  unfold laws_FnExactFewestToWin.f
  by_cases hs : (s.size : Int) > 1048576
  · simp only [if_pos hs]
    exact Ev.now _
  · by_cases hsd : (side.size : Int) > 1048576
    · simp only [if_neg hs, if_pos hsd]
      exact Ev.now _
    · simp only [if_neg hs, if_neg hsd, toRace_eq, Option.bind_some]
      have hs2 : s.size ≤ 1048576 := by omega
      have both : ∃ v : Int × Bool, Ev (fun k => spec_FewestToWin.f k To Lead s side) v ∧ Ev (fun k => impl_FewestToWin.f k To Lead s side) v := by
        cases hi : isB To Lead s
        · refine ⟨(0, false), ?_, ?_⟩
          · unfold spec_FewestToWin.f
            refine Ev.bind (raIs_ev To Lead s hs2) ?_
            rw [hi]
            simp only [Bool.false_eq_true, if_false]
            exact ev_some fun k => by simp [spec_FewestToWin.j0]
          · unfold impl_FewestToWin.f
            rw [played_no hi]
            simp only [Option.bind_some, Bool.false_eq_true, if_false]
            exact ev_some fun k => by simp [impl_FewestToWin.j0]
        · obtain ⟨hg, _, _⟩ := isB_parts hi
          have hT := goodR_to hg
          have hb := cntS_bd To Lead s hs2
          have hc := raCount_ev To Lead s hs2
          have hp := played_yes hi
          generalize cntS To Lead s = c at hb hc hp
          obtain ⟨a, b, p⟩ := c
          simp only at hb hp
          have hne : ([97] : List UInt8) ≠ [98] := by decide
          -- the own and the other side's points
          have main : ∀ own other : Int, (0 ≤ own ∧ own ≤ 1048576) → (0 ≤ other ∧ other ≤ 1048576) → Ev (fun k => spec_FewestToWin.j1 k own other To Lead) (if wonB To Lead other own = true then (0, false) else (mx 0 (mx To (other + Lead) - own), true)) := by
            intro own other ho ht
            have hR := raWon_ev To Lead own other (by omega) (by omega)
            have hw1 : wrap64 (other + Lead) = other + Lead := wrap_id (by omega) (by omega)
            refine Ev.step (f := fun k => (spec_raWon.f k To Lead own other).bind fun t121 => (if t121 < 0 then (some (0, false)) else ((spec_l1Most.f To (wrap64 (other + Lead))).bind fun t122 => ((spec_l1Most.f 0 (wrap64 (t122 - own))).bind fun t123 => (some (t123, true)))))) (fun k => by simp only [spec_FewestToWin.j1]) ?_
            refine Ev.bind hR ?_
            by_cases h1 : wonB To Lead other own = true
            · rw [(Rw_neg hT.2.1).2 h1, if_pos h1]
              exact Ev.now _
            · rw [if_neg h1]
              have hnn : ¬ Rw To Lead own other < 0 := by
                rcases Rw_three To Lead own other with h | h | h
                · rw [h]; decide
                · exact absurd ((Rw_neg hT.2.1).1 h) h1
                · rw [h]; decide
              rw [if_neg hnn, hw1]
              refine ev_const fun k => ?_
              have m1 : spec_l1Most.f To (other + Lead) = some (mx To (other + Lead)) := by
                unfold spec_l1Most.f mx
                split <;> split <;> first | rfl | (congr 1; omega)
              have hmx : 0 ≤ mx To (other + Lead) ∧ mx To (other + Lead) ≤ 2000000 := by unfold mx; split <;> omega
              rw [m1, Option.bind_some, wrap_id (i := mx To (other + Lead) - own) (by omega) (by omega)]
              have m2 : spec_l1Most.f 0 (mx To (other + Lead) - own) = some (mx 0 (mx To (other + Lead) - own)) := by
                unfold spec_l1Most.f
                rw [show mx 0 (mx To (other + Lead) - own) = if 0 > mx To (other + Lead) - own then 0 else mx To (other + Lead) - own by unfold mx; split <;> split <;> omega]
                split <;> rfl
              rw [m2]
              rfl
          -- what the program returns
          have prog : ∀ own other : Int, (0 ≤ own ∧ own ≤ 1048576) → (0 ≤ other ∧ other ≤ 1048576) → wonB To Lead own other = false → mx (wrap64 (To - own)) (wrap64 (wrap64 (Lead + other) - own)) = mx 0 (mx To (other + Lead) - own) := by
            intro own other ho ht hn
            rw [wrap_id (i := To - own) (by omega) (by omega), wrap_id (i := Lead + other) (by omega) (by omega), wrap_id (i := Lead + other - own) (by omega) (by omega)]
            unfold wonB at hn
            have hn2 : ¬ (To ≤ own ∧ Lead ≤ own - other) := by
              rintro ⟨h1, h2⟩
              simp [h1, h2] at hn
            unfold mx
            repeat' split
            all_goals omega
          by_cases h97 : side.toList = ([97] : List UInt8)
          · refine ⟨if wonB To Lead b a = true then (0, false) else (mx 0 (mx To (b + Lead) - a), true), ?_, ?_⟩
            · unfold spec_FewestToWin.f
              refine Ev.bind (raIs_ev To Lead s hs2) ?_
              rw [hi]
              simp only [if_true, h97]
              refine Ev.step (f := fun k => (spec_raCount.f k To Lead s).bind fun bt118 => (spec_FewestToWin.j1 k bt118.1 bt118.2.1 To Lead)) (fun k => by simp [spec_FewestToWin.j0, h97]) ?_
              refine Ev.bind hc ?_
              exact main a b (by omega) (by omega)
            · unfold impl_FewestToWin.f
              rw [hp]
              simp only [Option.bind_some, if_true]
              have hside : impl_isSide.f side = some true := by unfold impl_isSide.f; rw [if_pos h97]
              rw [hside]
              simp only [Option.bind_some, Bool.not_true]
              refine ev_some fun k => ?_
              simp only [impl_FewestToWin.j0, Bool.false_eq_true, if_false]
              rw [h97]
              rcases Rw_three To Lead a b with h | h | h
              · have e : wonB To Lead b a = false := by
                  cases h2 : wonB To Lead b a
                  · rfl
                  · have := (Rw_neg hT.2.1).2 h2; rw [h] at this; cases this
                have e2 : wonB To Lead a b = true := Rw_one.1 h
                rw [h, show (wonText (code 1)).toList = [97] by rw [Lib.toList_data]; rfl, if_neg (by decide), e]
                simp only [Bool.false_eq_true, if_false]
                have : mx 0 (mx To (b + Lead) - a) = 0 := by
                  unfold wonB at e2
                  simp at e2
                  unfold mx
                  repeat' split
                  all_goals omega
                rw [this]
                rfl
              · have e : wonB To Lead b a = true := (Rw_neg hT.2.1).1 h
                rw [h, show (wonText (code (-1))).toList = [98] by rw [Lib.toList_data]; rfl, if_neg (by decide), if_pos e]
                rfl
              · have e : wonB To Lead b a = false := by
                  cases h2 : wonB To Lead b a
                  · rfl
                  · have := (Rw_neg hT.2.1).2 h2; rw [h] at this; cases this
                have e2 : wonB To Lead a b = false := by
                  cases h2 : wonB To Lead a b
                  · rfl
                  · have := Rw_one.2 h2; rw [h] at this; cases this
                rw [h, show (wonText (code 0)).toList = [45] by rw [Lib.toList_data]; rfl, if_pos rfl, if_neg hne, e, prog a b (by omega) (by omega) e2]
                rfl
          · by_cases h98 : side.toList = ([98] : List UInt8)
            · refine ⟨if wonB To Lead a b = true then (0, false) else (mx 0 (mx To (a + Lead) - b), true), ?_, ?_⟩
              · unfold spec_FewestToWin.f
                refine Ev.bind (raIs_ev To Lead s hs2) ?_
                rw [hi]
                simp only [if_true, h98, hne.symm, if_false, bne_self_eq_false]
                refine Ev.step (f := fun k => (spec_raCount.f k To Lead s).bind fun bt118 => (spec_FewestToWin.j1 k bt118.2.1 bt118.1 To Lead)) (fun k => by simp [spec_FewestToWin.j0, h98]) ?_
                refine Ev.bind hc ?_
                exact main b a (by omega) (by omega)
              · unfold impl_FewestToWin.f
                rw [hp]
                simp only [Option.bind_some, if_true]
                have hside : impl_isSide.f side = some true := by unfold impl_isSide.f; rw [if_neg h97, h98]; rfl
                rw [hside]
                simp only [Option.bind_some, Bool.not_true]
                refine ev_some fun k => ?_
                simp only [impl_FewestToWin.j0, Bool.false_eq_true, if_false]
                rw [h98]
                rcases Rw_three To Lead a b with h | h | h
                · have e2 : wonB To Lead a b = true := Rw_one.1 h
                  rw [h, show (wonText (code 1)).toList = [97] by rw [Lib.toList_data]; rfl, if_neg (by decide), if_pos e2]
                  rfl
                · have e : wonB To Lead b a = true := (Rw_neg hT.2.1).1 h
                  have e2 : wonB To Lead a b = false := by
                    cases h2 : wonB To Lead a b
                    · rfl
                    · have := Rw_one.2 h2; rw [h] at this; cases this
                  rw [h, show (wonText (code (-1))).toList = [98] by rw [Lib.toList_data]; rfl, if_neg (by decide), e2]
                  simp only [Bool.false_eq_true, if_false]
                  have : mx 0 (mx To (a + Lead) - b) = 0 := by
                    unfold wonB at e
                    simp at e
                    unfold mx
                    repeat' split
                    all_goals omega
                  rw [this]
                  rfl
                · have e : wonB To Lead b a = false := by
                    cases h2 : wonB To Lead b a
                    · rfl
                    · have := (Rw_neg hT.2.1).2 h2; rw [h] at this; cases this
                  have e2 : wonB To Lead a b = false := by
                    cases h2 : wonB To Lead a b
                    · rfl
                    · have := Rw_one.2 h2; rw [h] at this; cases this
                  rw [h, show (wonText (code 0)).toList = [45] by rw [Lib.toList_data]; rfl, if_pos rfl, if_pos rfl, e2, prog b a (by omega) (by omega) e]
                  rfl
            · refine ⟨(0, false), ?_, ?_⟩
              · unfold spec_FewestToWin.f
                refine Ev.bind (raIs_ev To Lead s hs2) ?_
                rw [hi]
                have : (side.toList != ([98] : List UInt8)) = true := by simpa using h98
                simp only [if_true, h97, if_false, this]
                exact ev_some fun k => by simp [spec_FewestToWin.j0]
              · unfold impl_FewestToWin.f
                rw [hp]
                simp only [Option.bind_some, if_true]
                have hside : impl_isSide.f side = some false := by
                  unfold impl_isSide.f
                  rw [if_neg h97]
                  have : (side.toList == ([98] : List UInt8)) = false := by simpa using h98
                  rw [this]
                rw [hside]
                simp only [Option.bind_some, Bool.not_false]
                exact ev_some fun k => by simp [impl_FewestToWin.j0]
      obtain ⟨v, hv1, hv2⟩ := both
      refine Ev.bind hv1 ?_
      refine Ev.bind hv2 ?_
      simp only [bne_self_eq_false, Bool.false_eq_true, if_false, if_true]
      exact Ev.now _

end Go.Proofs.YtlfbpidklpjieaaDoor.Pure
