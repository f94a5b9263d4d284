/- What the functions of plays answer, in plain words. -/
import Derived.Test.YtiknaldhjbdnbaaGreatDoorcQFnRacesWonx
import Derived.Test.YtiknaldhjbdnbaaGreatDoorcGTP
import Derived.Test.YtiknaldhjbdnbaaGreatDoorcGServe
import Derived.Test.YtiknaldhjbdnbaaGreatDoorcGFirst
namespace Go.Proofs.YtiknaldhjbdnbaaGreatDoor.Pure
open Go.RowKit Go.Proofs.YtiknaldhjbdnbaaGreatDoor.QFnRacesWon Go.Proofs.YtiknaldhjbdnbaaGreatDoorW.PrintWords Go.Proofs.YtiknaldhjbdnbaaGreatDoorW.PrintLast Go.Proofs.YtiknaldhjbdnbaaGreatDoorW.PrintMore
set_option linter.unusedVariables false
set_option linter.unusedSimpArgs false
set_option linter.unusedSectionVars false
theorem ev_some {α : Type} {g : Nat → Option α} {r : α} (h : ∀ k, g (k + 1) = some r) : Ev g r := Ev.step h (Ev.now r)
theorem ev_const {α : Type} {g : Nat → Option α} {r : α} (h : ∀ k, g k = some r) : Ev g r := ⟨0, fun k _ => h k⟩
theorem wrap_id {i : Int} (h0 : -9223372036854775808 ≤ i) (h1 : i ≤ 9223372036854775807) : wrap64 i = i := by unfold wrap64; omega
theorem l1In_eq (a b c : Int) : spec_l1In.f a b c = some (decide (b ≤ a ∧ a ≤ c)) := by
  unfold spec_l1In.f
  by_cases h : a ≥ b
  · rw [if_pos h]
    have h2 : b ≤ a := h
    simp [h2]
  · rw [if_neg h]
    have h2 : ¬ b ≤ a := h
    simp [h2]
theorem within_eq (a b c : Int) : impl_within.f a b c = some (decide (b ≤ a ∧ a ≤ c)) := by
  unfold impl_within.f
  by_cases h : b ≤ a
  · rw [if_pos h]
    simp [h]
  · rw [if_neg h]
    simp [h]
theorem b97 (c : UInt8) : ((c.toNat : Int) = 97) ↔ c = 97 := by
  constructor
  · intro h
    apply UInt8.toNat_inj.1
    show c.toNat = 97
    omega
  · rintro rfl
    rfl
theorem b98 (c : UInt8) : ((c.toNat : Int) = 98) ↔ c = 98 := by
  constructor
  · intro h
    apply UInt8.toNat_inj.1
    show c.toNat = 98
    omega
  · rintro rfl
    rfl
theorem len_data (s : ByteArray) : s.data.toList.length = s.size := by simp
theorem bt_nat (s : ByteArray) (n : Nat) (h : n < s.data.toList.length) : bt s (n : Int) = ((s.data.toList[n]).toNat : Int) := by
  have h2 : n < s.size := by rw [len_data] at h; exact h
  unfold bt
  rw [dif_pos (by simpa using h2)]
  rfl
def pointsB (s : ByteArray) : Bool := decide (s.size ≤ 100) && s.data.toList.all abB
theorem raPoints_l0 (s : ByteArray) (hs : s.size ≤ 1048576) (d : Nat) : ∀ i : Nat, i + d = s.size → Ev (fun k => spec_raPoints.l0 k s (i : Int)) ((s.data.toList.drop i).all abB) := by
  induction d with
  | zero =>
    intro i hi
    refine ev_some fun k => ?_
    simp only [spec_raPoints.l0]
    rw [if_neg (by omega), List.drop_of_length_le (by rw [len_data]; omega)]
    rfl
  | succ d ih =>
    intro i hi
    have hlt : i < s.data.toList.length := by rw [len_data]; omega
    have hn := ih (i + 1) (by omega)
    have hw : wrap64 ((i : Int) + 1) = ((i + 1 : Nat) : Int) := by rw [wrap_id (by omega) (by omega)]; omega
    have hbt := bt_nat s i hlt
    rw [List.drop_eq_getElem_cons hlt, List.all_cons]
    generalize s.data.toList[i] = c at hbt ⊢
    by_cases c1 : c = 97
    · have : abB c = true := by rw [c1]; rfl
      rw [this, Bool.true_and]
      refine Ev.step (fun k => ?_) hn
      simp only [spec_raPoints.l0]
      rw [if_pos (by omega), if_pos (by omega), hbt, if_pos ((b97 _).2 c1), hw]
    · by_cases c2 : c = 98
      · have : abB c = true := by rw [c2]; rfl
        rw [this, Bool.true_and]
        refine Ev.step (fun k => ?_) hn
        simp only [spec_raPoints.l0]
        rw [if_pos (by omega), if_pos (by omega), hbt, if_neg (fun h => c1 ((b97 _).1 h)), if_pos ((b98 _).2 c2), hw]
      · have : abB c = false := by simp [abB, c1, c2]
        rw [this, Bool.false_and]
        refine ev_some fun k => ?_
        simp only [spec_raPoints.l0]
        rw [if_pos (by omega), if_pos (by omega), hbt, if_neg (fun h => c1 ((b97 _).1 h)), if_neg (fun h => c2 ((b98 _).1 h))]
theorem raPoints_ev (s : ByteArray) (hs : s.size ≤ 1048576) : Ev (fun k => spec_raPoints.f k s) (pointsB s) := by
  unfold spec_raPoints.f pointsB
  by_cases h : (s.size : Int) > 100
  · simp only [if_pos h]
    have : ¬ s.size ≤ 100 := by omega
    simp only [this, decide_false, Bool.false_and]
    exact Ev.now _
  · simp only [if_neg h]
    have : s.size ≤ 100 := by omega
    simp only [this, decide_true, Bool.true_and]
    have := raPoints_l0 s hs s.size 0 (by omega)
    simpa using this
theorem isPoints_eq (s : ByteArray) : impl_isPoints.f s 100 = some (pointsB s) := by
  unfold impl_isPoints.f pointsB
  by_cases h : (s.size : Int) ≤ 100
  · rw [if_pos h, if_pos (by omega)]
    have : s.size ≤ 100 := by omega
    simp [this]
  · rw [if_neg h]
    have : ¬ s.size ≤ 100 := by omega
    simp [this]
def goodR (a b : Int) : Bool := decide (1 ≤ a ∧ a ≤ 30) && decide (1 ≤ b ∧ b ≤ 5)
theorem raGood_eq (a b : Int) : spec_raGood.f a b = some (goodR a b) := by
  unfold spec_raGood.f goodR
  rw [l1In_eq, Option.bind_some]
  cases decide (1 ≤ a ∧ a ≤ 30)
  · rfl
  · rw [if_pos rfl, l1In_eq]; rfl
theorem isRace_eq (a b : Int) : impl_IsRace.f a b = some (goodR a b) := by
  unfold impl_IsRace.f goodR
  rw [within_eq, Option.bind_some]
  cases decide (1 ≤ a ∧ a ≤ 30)
  · rfl
  · rw [if_pos rfl, within_eq]; rfl
def Rw (To Lead a b : Int) : Int := if a ≥ To ∧ a - b ≥ Lead then 1 else if b ≥ To ∧ b - a ≥ Lead then -1 else 0
theorem raWon_ev (To Lead a b : Int) (ha : 0 ≤ a ∧ a ≤ 2000000) (hb : 0 ≤ b ∧ b ≤ 2000000) : Ev (fun k => spec_raWon.f k To Lead a b) (Rw To Lead a b) := by
  have hw1 : wrap64 (a - b) = a - b := wrap_id (by omega) (by omega)
  have hw2 : wrap64 (b - a) = b - a := wrap_id (by omega) (by omega)
  have j0 : ∀ x : Bool, Ev (fun k => spec_raWon.j0 k a b x To Lead) (if x = true then 1 else if b ≥ To ∧ b - a ≥ Lead then -1 else 0) := by
    intro x
    refine ev_some fun k => ?_
    simp only [spec_raWon.j0, hw2]
    cases x
    · simp only [Bool.false_eq_true, if_false]
      by_cases h1 : b ≥ To
      · rw [if_pos h1]
        by_cases h2 : b - a ≥ Lead
        · rw [if_pos h2, if_pos ⟨h1, h2⟩]
        · rw [if_neg h2, if_neg (fun h => h2 h.2)]
      · rw [if_neg h1, if_neg (fun h => h1 h.1)]
    · simp
  unfold spec_raWon.f Rw
  by_cases h1 : a ≥ To
  · simp only [if_pos h1, hw1]
    have := j0 (decide (a - b ≥ Lead))
    by_cases h2 : a - b ≥ Lead
    · rw [if_pos ⟨h1, h2⟩]
      simpa [h2] using this
    · rw [if_neg (fun h => h2 h.2)]
      simpa [h2] using this
  · simp only [if_neg h1]
    rw [if_neg (fun h => h1 h.1)]
    have := j0 false
    simpa using this
theorem Rw_three (To Lead a b : Int) : Rw To Lead a b = 1 ∨ Rw To Lead a b = -1 ∨ Rw To Lead a b = 0 := by
  unfold Rw
  repeat' split
  all_goals simp
def cnt (To Lead : Int) : List UInt8 → Int → Int → Int × Int × Bool
  | [], a, b => (a, b, true)
  | c :: l, a, b => if Rw To Lead a b = 0 then (if c = 97 then cnt To Lead l (a + 1) b else cnt To Lead l a (b + 1)) else (a, b, false)
theorem raCount_l0 (To Lead : Int) (s : ByteArray) (hs : s.size ≤ 1048576) (d : Nat) : ∀ (i : Nat) (a b : Int), i + d = s.size → 0 ≤ a → 0 ≤ b → a + b ≤ i →
    Ev (fun k => spec_raCount.l0 k s a b (i : Int) To Lead) (cnt To Lead (s.data.toList.drop i) a b) := by
  induction d with
  | zero =>
    intro i a b hi ha hb hab
    refine ev_some fun k => ?_
    simp only [spec_raCount.l0]
    rw [if_neg (by omega), List.drop_of_length_le (by rw [len_data]; omega)]
    rfl
  | succ d ih =>
    intro i a b hi ha hb hab
    have hlt : i < s.data.toList.length := by rw [len_data]; omega
    have hw : wrap64 ((i : Int) + 1) = ((i + 1 : Nat) : Int) := by rw [wrap_id (by omega) (by omega)]; omega
    have hwa : wrap64 (a + 1) = a + 1 := wrap_id (by omega) (by omega)
    have hwb : wrap64 (b + 1) = b + 1 := wrap_id (by omega) (by omega)
    have hlt2 : (i : Int) < (s.size : Int) := by omega
    have h0i : (0 : Int) ≤ (i : Int) := by omega
    rw [List.drop_eq_getElem_cons hlt]
    refine Ev.step (f := fun k => (spec_raWon.f k To Lead a b).bind fun t => (if t = 0 then (if 0 ≤ (i : Int) then (if (bt s i) = 97 then (spec_raCount.l0 k s (wrap64 (a + 1)) b (wrap64 ((i : Int) + 1)) To Lead) else (spec_raCount.l0 k s a (wrap64 (b + 1)) (wrap64 ((i : Int) + 1)) To Lead)) else (none)) else (some (a, b, false)))) (fun k => ?_) ?_
    · simp only [spec_raCount.l0]
      rw [if_pos hlt2]
    · refine Ev.bind (raWon_ev To Lead a b (by omega) (by omega)) ?_
      simp only [cnt]
      by_cases hR : Rw To Lead a b = 0
      · simp only [hR, if_true, h0i, hw, hwa, hwb, bt_nat s i hlt]
        by_cases c1 : s.data.toList[i] = 97
        · simp only [(b97 _).2 c1, if_true, c1]
          exact ih (i + 1) (a + 1) b (by omega) (by omega) hb (by omega)
        · have c2 : ¬ ((s.data.toList[i].toNat : Int) = 97) := fun h => c1 ((b97 _).1 h)
          simp only [c2, c1, if_false]
          exact ih (i + 1) a (b + 1) (by omega) ha (by omega) (by omega)
      · simp only [hR, if_false]
        exact Ev.now _
def cntS (To Lead : Int) (s : ByteArray) : Int × Int × Bool := cnt To Lead s.data.toList 0 0
theorem raCount_ev (To Lead : Int) (s : ByteArray) (hs : s.size ≤ 1048576) : Ev (fun k => spec_raCount.f k To Lead s) (cntS To Lead s) := by
  have := raCount_l0 To Lead s hs s.size 0 0 0 (by omega) (Int.le_refl 0) (Int.le_refl 0) (by omega)
  simpa [spec_raCount.f, cntS] using this
theorem cnt_bd (To Lead : Int) (l : List UInt8) : ∀ a b : Int, 0 ≤ a → 0 ≤ b → 0 ≤ (cnt To Lead l a b).1 ∧ 0 ≤ (cnt To Lead l a b).2.1 ∧ (cnt To Lead l a b).1 + (cnt To Lead l a b).2.1 ≤ a + b + l.length := by
  induction l with
  | nil => intro a b ha hb; simp [cnt, ha, hb]
  | cons c l ih =>
    intro a b ha hb
    simp only [cnt, List.length_cons]
    split
    · split
      · have := ih (a + 1) b (by omega) hb; omega
      · have := ih a (b + 1) ha (by omega); omega
    · simp only; omega
theorem cntS_bd (To Lead : Int) (s : ByteArray) (hs : s.size ≤ 1048576) : (0 ≤ (cntS To Lead s).1 ∧ (cntS To Lead s).1 ≤ 1048576) ∧ (0 ≤ (cntS To Lead s).2.1 ∧ (cntS To Lead s).2.1 ≤ 1048576) := by
  have := cnt_bd To Lead s.data.toList 0 0 (Int.le_refl 0) (Int.le_refl 0)
  rw [len_data] at this
  unfold cntS
  omega
def code (r : Int) : Nat := if r = 1 then 1 else if r = -1 then 2 else 0
theorem code_won (To Lead a b : Int) (n : Nat) (hn : n = 0) : (if wonB To Lead a b = true then 1 else if wonB To Lead b a = true then 2 else n) = code (Rw To Lead a b) := by
  subst hn
  unfold wonB Rw code
  by_cases h1 : a ≥ To ∧ a - b ≥ Lead
  · have e1 : (decide (To ≤ a) && decide (Lead ≤ a - b)) = true := by simp; omega
    simp [h1, e1]
  · have e1 : (decide (To ≤ a) && decide (Lead ≤ a - b)) = false := by
      cases h : (decide (To ≤ a) && decide (Lead ≤ a - b))
      · rfl
      · exfalso; apply h1; simp at h; omega
    rw [e1, if_neg h1]
    by_cases h2 : b ≥ To ∧ b - a ≥ Lead
    · have e2 : (decide (To ≤ b) && decide (Lead ≤ b - a)) = true := by simp; omega
      simp [h2, e2]
    · have e2 : (decide (To ≤ b) && decide (Lead ≤ b - a)) = false := by
        cases h : (decide (To ≤ b) && decide (Lead ≤ b - a))
        · rfl
        · exfalso; apply h2; simp at h; omega
      rw [e2, if_neg h2]
      simp
theorem fold_false (To Lead : Int) (l : List UInt8) : ∀ st : Stand, st.play = false → (l.foldl (Stand.step To Lead) st).play = false := by
  induction l with
  | nil => intro st h; exact h
  | cons c l ih =>
    intro st h
    refine ih (st.step To Lead c) ?_
    simp [Stand.step, h]
theorem run_cnt (To Lead : Int) (l : List UInt8) : ∀ st : Stand, st.play = true → st.won = code (Rw To Lead st.a st.b) →
    (l.foldl (Stand.step To Lead) st).play = (cnt To Lead l st.a st.b).2.2 ∧ ((cnt To Lead l st.a st.b).2.2 = true → (l.foldl (Stand.step To Lead) st).a = (cnt To Lead l st.a st.b).1 ∧ (l.foldl (Stand.step To Lead) st).b = (cnt To Lead l st.a st.b).2.1 ∧ (l.foldl (Stand.step To Lead) st).won = code (Rw To Lead (cnt To Lead l st.a st.b).1 (cnt To Lead l st.a st.b).2.1)) := by
  induction l with
  | nil => intro st hp hw; exact ⟨hp, fun _ => ⟨rfl, rfl, hw⟩⟩
  | cons c l ih =>
    intro st hp hw
    rw [List.foldl_cons]
    by_cases hR : Rw To Lead st.a st.b = 0
    · have h0 : st.won = 0 := by rw [hw, hR]; rfl
      have e : cnt To Lead (c :: l) st.a st.b = cnt To Lead l (st.step To Lead c).a (st.step To Lead c).b := by
        simp only [cnt, Stand.step]
        rw [if_pos hR]
        by_cases hc : c = 97
        · simp [hc]
        · simp [hc]
      rw [e]
      refine ih (st.step To Lead c) (by simp [Stand.step, hp, h0]) ?_
      rw [← code_won To Lead _ _ st.won h0]
      simp [Stand.step, hp, h0]
    · have h0 : st.won ≠ 0 := by
        rw [hw]
        rcases Rw_three To Lead st.a st.b with h | h | h
        · rw [h]; decide
        · rw [h]; decide
        · exact absurd h hR
      have e : cnt To Lead (c :: l) st.a st.b = (st.a, st.b, false) := by simp only [cnt]; rw [if_neg hR]
      rw [e]
      refine ⟨fold_false To Lead l _ (by simp [Stand.step, h0]), fun h => by cases h⟩
theorem points_ascii {s : ByteArray} (h : pointsB s = true) : s.size ≤ 100 ∧ s.data.toList.all (fun c => decide (c.toNat < 128)) = true := by
  unfold pointsB at h
  rw [Bool.and_eq_true] at h
  refine ⟨of_decide_eq_true h.1, ?_⟩
  rw [List.all_eq_true]
  intro c hc
  have := List.all_eq_true.1 h.2 c hc
  unfold abB at this
  simp only [Bool.or_eq_true, beq_iff_eq] at this
  rcases this with rfl | rfl <;> rfl
theorem follow_eq {To Lead : Int} (hT : 1 ≤ To) {s : ByteArray} (h : pointsB s = true) : ∃ a b t, impl_follow.f To Lead s = some (a, b, t, (cntS To Lead s).2.2) ∧ ((cntS To Lead s).2.2 = true → a = (cntS To Lead s).1 ∧ b = (cntS To Lead s).2.1 ∧ t = wonText (code (Rw To Lead (cntS To Lead s).1 (cntS To Lead s).2.1))) := by
  obtain ⟨h1, h2⟩ := points_ascii h
  have h0 : Rw To Lead 0 0 = 0 := by
    unfold Rw
    rw [if_neg (by omega), if_neg (by omega)]
  obtain ⟨hp, hr⟩ := run_cnt To Lead s.data.toList ⟨0, 0, 0, true⟩ rfl (by simp only [h0]; rfl)
  unfold impl_follow.f
  rw [if_pos ⟨by omega, h2⟩]
  refine ⟨_, _, _, by rw [show (Stand.run To Lead s.data.toList).play = (cntS To Lead s).2.2 from hp], fun ht => ?_⟩
  obtain ⟨e1, e2, e3⟩ := hr ht
  exact ⟨e1, e2, by rw [show (Stand.run To Lead s.data.toList).won = _ from e3]; rfl⟩
def isB (To Lead : Int) (s : ByteArray) : Bool := goodR To Lead && (pointsB s && (cntS To Lead s).2.2)
theorem goodR_to {To Lead : Int} (h : goodR To Lead = true) : (1 ≤ To ∧ To ≤ 30) ∧ (1 ≤ Lead ∧ Lead ≤ 5) := by
  unfold goodR at h
  rw [Bool.and_eq_true] at h
  exact ⟨of_decide_eq_true h.1, of_decide_eq_true h.2⟩
theorem isPlay_eq (To Lead : Int) (s : ByteArray) : impl_IsPlay.f To Lead s = some (isB To Lead s, goodR To Lead && pointsB s) := by
  unfold impl_IsPlay.f isB
  rw [isRace_eq, Option.bind_some]
  cases hg : goodR To Lead
  · rfl
  · rw [if_pos rfl, isPoints_eq, Option.bind_some]
    cases hp : pointsB s
    · rfl
    · obtain ⟨a, b, t, hf, _⟩ := follow_eq (Lead := Lead) (goodR_to hg).1.1 hp
      rw [if_pos rfl, hf]
      rfl
theorem Rw_one {To Lead a b : Int} : Rw To Lead a b = 1 ↔ wonB To Lead a b = true := by
  unfold Rw wonB
  by_cases h1 : a ≥ To ∧ a - b ≥ Lead
  · rw [if_pos h1]
    simp
    omega
  · rw [if_neg h1]
    simp
    by_cases h2 : b ≥ To ∧ b - a ≥ Lead
    · rw [if_pos h2]
      simp
      omega
    · rw [if_neg h2]
      simp
      omega
theorem Rw_neg {To Lead a b : Int} (hL : 1 ≤ Lead) : Rw To Lead a b = -1 ↔ wonB To Lead b a = true := by
  unfold Rw wonB
  by_cases h1 : a ≥ To ∧ a - b ≥ Lead
  · rw [if_pos h1]
    simp
    omega
  · rw [if_neg h1]
    by_cases h2 : b ≥ To ∧ b - a ≥ Lead
    · rw [if_pos h2]
      simp
      omega
    · rw [if_neg h2]
      simp
      omega
theorem raIs_ev (To Lead : Int) (s : ByteArray) (hs : s.size ≤ 1048576) : Ev (fun k => spec_raIs.f k To Lead s) (isB To Lead s) := by
  unfold spec_raIs.f isB
  rw [raGood_eq]
  simp only [Option.bind_some]
  cases goodR To Lead
  · exact Ev.now _
  · simp only [if_true, Bool.true_and]
    refine Ev.bind (raPoints_ev s hs) ?_
    cases pointsB s
    · exact Ev.now _
    · simp only [if_true, Bool.true_and]
      exact Ev.bind (raCount_ev To Lead s hs) (Ev.now _)
theorem isB_parts {To Lead : Int} {s : ByteArray} (h : isB To Lead s = true) : goodR To Lead = true ∧ pointsB s = true ∧ (cntS To Lead s).2.2 = true := by
  unfold isB at h
  simp only [Bool.and_eq_true] at h
  exact ⟨h.1, h.2.1, h.2.2⟩
theorem played_yes {To Lead : Int} {s : ByteArray} (h : isB To Lead s = true) : impl_played.f To Lead s = some ((cntS To Lead s).1, (cntS To Lead s).2.1, wonText (code (Rw To Lead (cntS To Lead s).1 (cntS To Lead s).2.1)), true, true) := by
  obtain ⟨hg, hp, hc⟩ := isB_parts h
  obtain ⟨a, b, t, hf, hr⟩ := follow_eq (Lead := Lead) (goodR_to hg).1.1 hp
  obtain ⟨rfl, rfl, rfl⟩ := hr hc
  unfold impl_played.f
  rw [isPlay_eq, Option.bind_some, h, hg, hp, hf, hc]
  rfl
theorem played_no {To Lead : Int} {s : ByteArray} (h : isB To Lead s = false) : impl_played.f To Lead s = some (0, 0, (⟨#[]⟩ : ByteArray), false, false) := by
  unfold impl_played.f
  rw [isPlay_eq, Option.bind_some, h]
  cases (goodR To Lead && pointsB s) <;> rfl
theorem hasWon_eq (To Lead a b : Int) (ha : 0 ≤ a ∧ a ≤ 2000000) (hb : 0 ≤ b ∧ b ≤ 2000000) : impl_Race_hasWon.f To Lead a b = some (wonB To Lead a b) := by
  have hw1 : wrap64 (a - b) = a - b := wrap_id (by omega) (by omega)
  unfold impl_Race_hasWon.f wonB
  rw [hw1]
  by_cases h : a ≥ To
  · rw [if_pos h]
    have : To ≤ a := h
    simp [this]
  · rw [if_neg h]
    have : ¬ To ≤ a := h
    simp [this]
theorem raSide_ev (To Lead : Int) (s : ByteArray) (hs : s.size ≤ 1048576) : Ev (fun k => spec_raSide.f k To Lead s) (wonText (code (Rw To Lead (cntS To Lead s).1 (cntS To Lead s).2.1))) := by
  have hb := cntS_bd To Lead s hs
  unfold spec_raSide.f
  refine Ev.bind (raCount_ev To Lead s hs) ?_
  simp only [Option.bind_some]
  refine Ev.bind (raWon_ev To Lead _ _ (by omega) (by omega)) ?_
  have e1 : wrap64 ((1 : Int) + 1) = 2 := by unfold wrap64; omega
  have e2 : wrap64 ((-1 : Int) + 1) = 0 := by unfold wrap64; omega
  have e3 : wrap64 ((0 : Int) + 1) = 1 := by unfold wrap64; omega
  rcases Rw_three To Lead (cntS To Lead s).1 (cntS To Lead s).2.1 with h | h | h <;> rw [h] <;> simp only [e1, e2, e3] <;> exact ev_const fun _ => rfl
end Go.Proofs.YtiknaldhjbdnbaaGreatDoor.Pure
