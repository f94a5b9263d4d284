/- What the printed functions of FnExactTurnPlay compute answers true, at every argument of its types. No condition beside the types' own bounds. -/
import Derived.Test.YtfjgjljkfhpfbaaDoorQFnExactTurnPlayx
namespace Go.Proofs.YtfjgjljkfhpfbaaDoor.Pure
open Go.RowKit Go.Proofs.YtfjgjljkfhpfbaaDoor.QFnExactTurnPlay Go.Proofs.YtfjgjljkfhpfbaaDoorW.PrintWords Go.Proofs.YtfjgjljkfhpfbaaDoorW.PrintLast Go.Proofs.YtfjgjljkfhpfbaaDoorW.PrintMore
set_option linter.unusedVariables false
set_option linter.unusedSimpArgs false
set_option linter.unusedSectionVars false

theorem ev_some {α : Type} {g : Nat → Option α} {r : α} (h : ∀ k, g (k + 1) = some r) : Ev g r := Ev.step h (Ev.now r)
theorem ev_const {α : Type} {g : Nat → Option α} {r : α} (h : ∀ k, g k = some r) : Ev g r := ⟨0, fun k _ => h k⟩
theorem wrap_id {i : Int} (h0 : -9223372036854775808 ≤ i) (h1 : i ≤ 9223372036854775807) : wrap64 i = i := by unfold wrap64; omega

theorem b97 (c : UInt8) : ((c.toNat : Int) = 97) ↔ c = 97 := by
  constructor
  · intro h
    apply UInt8.toNat_inj.1
    show c.toNat = 97
    omega
  · rintro rfl
    rfl
theorem b98 (c : UInt8) : ((c.toNat : Int) = 98) ↔ c = 98 := by
  constructor
  · intro h
    apply UInt8.toNat_inj.1
    show c.toNat = 98
    omega
  · rintro rfl
    rfl
theorem len_data (s : ByteArray) : s.data.toList.length = s.size := by simp
theorem bt_nat (s : ByteArray) (n : Nat) (h : n < s.data.toList.length) : bt s (n : Int) = ((s.data.toList[n]).toNat : Int) := by
  have h2 : n < s.size := by rw [len_data] at h; exact h
  unfold bt
  rw [dif_pos (by simpa using h2)]
  rfl
def pointsB (s : ByteArray) : Bool := decide (s.size ≤ 100) && s.data.toList.all abB
theorem raPoints_l0 (s : ByteArray) (hs : s.size ≤ 1048576) (d : Nat) : ∀ i : Nat, i + d = s.size → Ev (fun k => spec_raPoints.l0 k s (i : Int)) ((s.data.toList.drop i).all abB) := by
  induction d with
  | zero =>
    intro i hi
    refine ev_some fun k => ?_
    simp only [spec_raPoints.l0]
    rw [if_neg (by omega), List.drop_of_length_le (by rw [len_data]; omega)]
    rfl
  | succ d ih =>
    intro i hi
    have hlt : i < s.data.toList.length := by rw [len_data]; omega
    have hn := ih (i + 1) (by omega)
    have hw : wrap64 ((i : Int) + 1) = ((i + 1 : Nat) : Int) := by rw [wrap_id (by omega) (by omega)]; omega
    have hbt := bt_nat s i hlt
    rw [List.drop_eq_getElem_cons hlt, List.all_cons]
    generalize s.data.toList[i] = c at hbt ⊢
    by_cases c1 : c = 97
    · have : abB c = true := by rw [c1]; rfl
      rw [this, Bool.true_and]
      refine Ev.step (fun k => ?_) hn
      simp only [spec_raPoints.l0]
      rw [if_pos (by omega), if_pos (by omega), hbt, if_pos ((b97 _).2 c1), hw]
    · by_cases c2 : c = 98
      · have : abB c = true := by rw [c2]; rfl
        rw [this, Bool.true_and]
        refine Ev.step (fun k => ?_) hn
        simp only [spec_raPoints.l0]
        rw [if_pos (by omega), if_pos (by omega), hbt, if_neg (fun h => c1 ((b97 _).1 h)), if_pos ((b98 _).2 c2), hw]
      · have : abB c = false := by simp [abB, c1, c2]
        rw [this, Bool.false_and]
        refine ev_some fun k => ?_
        simp only [spec_raPoints.l0]
        rw [if_pos (by omega), if_pos (by omega), hbt, if_neg (fun h => c1 ((b97 _).1 h)), if_neg (fun h => c2 ((b98 _).1 h))]
theorem raPoints_ev (s : ByteArray) (hs : s.size ≤ 1048576) : Ev (fun k => spec_raPoints.f k s) (pointsB s) := by
  unfold spec_raPoints.f pointsB
  by_cases h : (s.size : Int) > 100
  · simp only [if_pos h]
    have : ¬ s.size ≤ 100 := by omega
    simp only [this, decide_false, Bool.false_and]
    exact Ev.now _
  · simp only [if_neg h]
    have : s.size ≤ 100 := by omega
    simp only [this, decide_true, Bool.true_and]
    have := raPoints_l0 s hs s.size 0 (by omega)
    simpa using this
theorem isPoints_eq (s : ByteArray) : impl_isPoints.f s 100 = some (pointsB s) := by
  unfold impl_isPoints.f pointsB
  by_cases h : (s.size : Int) ≤ 100
  · rw [if_pos h, if_pos (by omega)]
    have : s.size ≤ 100 := by omega
    simp [this]
  · rw [if_neg h]
    have : ¬ s.size ≤ 100 := by omega
    simp [this]

open Go.Proofs.YtfjgjljkfhpfbaaDoor.PFnExactTurnPlay (trS trB)
theorem app_step (acc : ByteArray) (x : UInt8) (l : List UInt8) : (acc ++ (⟨#[x]⟩ : ByteArray)) ++ (⟨l.toArray⟩ : ByteArray) = acc ++ (⟨(x :: l).toArray⟩ : ByteArray) := by
  apply ByteArray.ext
  simp [ByteArray.data_append]
theorem raTurn_l0 (s : ByteArray) (hs : s.size ≤ 1048576) (d : Nat) : ∀ (i : Nat) (acc : ByteArray), i + d = s.size → acc.size = i → (s.data.toList.drop i).all abB = true → Ev (fun k => spec_raTurn.l0 k s acc (i : Int)) (acc ++ (⟨((s.data.toList.drop i).map trB).toArray⟩ : ByteArray)) := by
  induction d with
  | zero =>
    intro i acc hi ha hall
    refine ev_some fun k => ?_
    simp only [spec_raTurn.l0]
    rw [if_neg (by omega), List.drop_of_length_le (by rw [len_data]; omega)]
    congr 1
    apply ByteArray.ext
    simp [ByteArray.data_append]
  | succ d ih =>
    intro i acc hi ha hall
    have hlt : i < s.data.toList.length := by rw [len_data]; omega
    have hw : wrap64 ((i : Int) + 1) = ((i + 1 : Nat) : Int) := by rw [wrap_id (by omega) (by omega)]; omega
    have hbt := bt_nat s i hlt
    rw [List.drop_eq_getElem_cons hlt] at hall ⊢
    rw [List.all_cons, Bool.and_eq_true] at hall
    obtain ⟨hc, hall⟩ := hall
    rw [List.map_cons]
    generalize s.data.toList[i] = c at hbt hc ⊢
    by_cases c1 : c = 97
    · have ht : trB c = 98 := by rw [c1]; rfl
      rw [ht, ← app_step]
      refine Ev.step (fun k => ?_) (ih (i + 1) (acc ++ (⟨#[98]⟩ : ByteArray)) (by omega) (by rw [ByteArray.size_append, ha]; rfl) hall)
      simp only [spec_raTurn.l0]
      rw [if_pos (by omega), if_pos (by omega), hbt, if_pos ((b97 _).2 c1), if_pos (by omega), hw]
    · have c2 : c = 98 := by
        unfold abB at hc
        simpa [c1] using hc
      have ht : trB c = 97 := by rw [c2]; rfl
      rw [ht, ← app_step]
      refine Ev.step (fun k => ?_) (ih (i + 1) (acc ++ (⟨#[97]⟩ : ByteArray)) (by omega) (by rw [ByteArray.size_append, ha]; rfl) hall)
      simp only [spec_raTurn.l0]
      rw [if_pos (by omega), if_pos (by omega), hbt, if_neg (fun h => c1 ((b97 _).1 h)), if_pos (by omega), hw]
theorem raTurn_ev (s : ByteArray) (hs : s.size ≤ 1048576) (h : pointsB s = true) : Ev (fun k => spec_raTurn.f k s) (trS s) := by
  have hall : s.data.toList.all abB = true := by
    unfold pointsB at h
    rw [Bool.and_eq_true] at h
    exact h.2
  have := raTurn_l0 s hs s.size 0 (⟨#[]⟩ : ByteArray) (by omega) rfl hall
  have e : ((⟨#[]⟩ : ByteArray) ++ (⟨((s.data.toList.drop 0).map trB).toArray⟩ : ByteArray)) = trS s := by
    apply ByteArray.ext
    simp [ByteArray.data_append, trS]
  rw [e] at this
  exact this

theorem FnExactTurnPlay : ∀ (a0 : ByteArray), a0.size ≤ 140737488351232 → ∃ k, laws_FnExactTurnPlay.f k a0 = some true := by
  intro s _
  refine Ev.rounds ?_
  unfold laws_FnExactTurnPlay.f
  by_cases hs : (s.size : Int) > 1048576
  · simp only [if_pos hs]
    exact Ev.now _
  · simp only [if_neg hs]
    have hs2 : s.size ≤ 1048576 := by omega
    have h1 : Ev (fun k => spec_TurnPlay.f k s) (if pointsB s = true then (trS s, true) else ((⟨#[]⟩ : ByteArray), false)) := by
      unfold spec_TurnPlay.f
      refine Ev.bind (raPoints_ev s hs2) ?_
      cases hp : pointsB s
      · exact Ev.now _
      · simp only [if_true]
        exact Ev.bind (f := fun _ t => some (t, true)) (raTurn_ev s hs2 hp) (Ev.now _)
    have h2 : impl_TurnPlay.f s = some (if pointsB s = true then (trS s, true) else ((⟨#[]⟩ : ByteArray), false)) := by
      unfold impl_TurnPlay.f
      rw [isPoints_eq]
      cases pointsB s <;> rfl
    refine Ev.bind h1 ?_
    rw [h2]
    simp only [Option.bind_some, bne_self_eq_false, Bool.false_eq_true, if_false, if_true]
    exact Ev.now _

end Go.Proofs.YtfjgjljkfhpfbaaDoor.Pure
