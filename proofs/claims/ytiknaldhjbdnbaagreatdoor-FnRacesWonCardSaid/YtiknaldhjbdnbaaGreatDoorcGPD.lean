/- What the functions of laws.FnRacesWon's second draws answer, as named values. No condition but sizes. -/
import Derived.Test.YtiknaldhjbdnbaaGreatDoorcGPC
import Derived.Test.YtiknaldhjbdnbaaGreatDoorcGB611
import Derived.Test.YtiknaldhjbdnbaaGreatDoorcGB663
import Derived.Test.YtiknaldhjbdnbaaGreatDoorcGB740
namespace Go.Proofs.YtiknaldhjbdnbaaGreatDoor.Pure
open Go.RowKit Go.Proofs.YtiknaldhjbdnbaaGreatDoor.QFnRacesWon Go.Proofs.YtiknaldhjbdnbaaGreatDoorW.PrintWords Go.Proofs.YtiknaldhjbdnbaaGreatDoorW.PrintLast Go.Proofs.YtiknaldhjbdnbaaGreatDoorW.PrintMore
set_option linter.unusedVariables false
set_option linter.unusedSimpArgs false
set_option linter.unusedSectionVars false
open Go.Proofs.YtiknaldhjbdnbaaGreatDoor.PFnExactTurnPlay (trS trB)
theorem few_add97 {To Lead : Int} {p : ByteArray} (hi : isB To Lead p = true) (h0 : Rw To Lead (cntS To Lead p).1 (cntS To Lead p).2.1 = 0) (n : Nat) : (n : Int) < mx To ((cntS To Lead p).2.1 + Lead) - (cntS To Lead p).1 → p.size + n ≤ 100 →
    isB To Lead (repS p ⟨#[97]⟩ n) = true ∧ (cntS To Lead (repS p ⟨#[97]⟩ n)).1 = (cntS To Lead p).1 + n ∧ (cntS To Lead (repS p ⟨#[97]⟩ n)).2.1 = (cntS To Lead p).2.1 ∧ Rw To Lead (cntS To Lead (repS p ⟨#[97]⟩ n)).1 (cntS To Lead (repS p ⟨#[97]⟩ n)).2.1 = 0 := by
  induction n with
  | zero =>
    intro _ _
    refine ⟨hi, ?_, rfl, h0⟩
    show (cntS To Lead p).1 = (cntS To Lead p).1 + 0
    omega
  | succ n ih =>
    intro h1 h2
    obtain ⟨i1, i2, i3, i4⟩ := ih (by omega) (by omega)
    have hsz : (repS p ⟨#[97]⟩ n).size < 100 := by
      rw [repS_size]
      show p.size + n * 1 < 100
      omega
    obtain ⟨j1, j2⟩ := isB_snoc (c := 97) i1 hsz i4 rfl
    rw [if_pos rfl] at j2
    obtain ⟨n1, n2⟩ := Rw_0 h0
    have e1 : (cntS To Lead (repS p ⟨#[97]⟩ (n + 1))).1 = (cntS To Lead p).1 + (n + 1 : Nat) := by
      show (cntS To Lead (repS p ⟨#[97]⟩ n ++ ⟨#[97]⟩)).1 = _
      rw [j2, i2]
      show (cntS To Lead p).1 + (n : Int) + 1 = _
      omega
    have e2 : (cntS To Lead (repS p ⟨#[97]⟩ (n + 1))).2.1 = (cntS To Lead p).2.1 := by
      show (cntS To Lead (repS p ⟨#[97]⟩ n ++ ⟨#[97]⟩)).2.1 = _
      rw [j2, i3]
    refine ⟨j1, e1, e2, ?_⟩
    rw [e1, e2]
    refine Rw_of0 ?_ ?_
    · unfold mx at h1
      split at h1 <;> omega
    · omega
theorem few_win97 {To Lead : Int} {p : ByteArray} (hi : isB To Lead p = true) (few : Nat) (h : fewV To Lead (cntS To Lead p).1 (cntS To Lead p).2.1 = ((few : Int), true)) (hz : p.size + few ≤ 100) : winV To Lead (repS p ⟨#[97]⟩ few) = (⟨#[97]⟩, true) := by
  obtain ⟨hg, _, _⟩ := isB_parts hi
  have hT := goodR_to hg
  rcases Rw_three To Lead (cntS To Lead p).1 (cntS To Lead p).2.1 with hr | hr | hr
  · have hw := Rw_1 hr
    have hm : fewV To Lead (cntS To Lead p).1 (cntS To Lead p).2.1 = (0, true) := by
      have e : wonB To Lead (cntS To Lead p).2.1 (cntS To Lead p).1 = false := by
        cases h2 : wonB To Lead (cntS To Lead p).2.1 (cntS To Lead p).1
        · rfl
        · have := (Rw_neg hT.2.1).2 h2
          rw [hr] at this
          cases this
      unfold fewV
      rw [e]
      simp only [Bool.false_eq_true, if_false]
      congr 1
      unfold mx
      repeat' split
      all_goals omega
    rw [hm] at h
    have hf : few = 0 := by
      have := (Prod.mk.inj h).1
      omega
    subst hf
    show winV To Lead p = _
    rw [winV_is hi, hr]
    rfl
  · have hw : wonB To Lead (cntS To Lead p).2.1 (cntS To Lead p).1 = true := (Rw_neg hT.2.1).1 hr
    unfold fewV at h
    rw [if_pos hw] at h
    exact absurd (Prod.mk.inj h).2 (by decide)
  · obtain ⟨n1, n2⟩ := Rw_0 hr
    obtain ⟨e, g⟩ := fewV_open n1 n2
    rw [e] at h
    have hf := (Prod.mk.inj h).1
    obtain ⟨m, rfl⟩ : ∃ m, few = m + 1 := ⟨few - 1, by omega⟩
    obtain ⟨i1, i2, i3, i4⟩ := few_add97 hi hr m (by omega) (by omega)
    have hsz : (repS p ⟨#[97]⟩ m).size < 100 := by
      rw [repS_size]
      show p.size + m * 1 < 100
      omega
    obtain ⟨j1, j2⟩ := isB_snoc (c := 97) i1 hsz i4 rfl
    rw [if_pos rfl] at j2
    show winV To Lead (repS p ⟨#[97]⟩ m ++ ⟨#[97]⟩) = _
    rw [winV_is j1, j2]
    simp only
    rw [i2, i3]
    rw [Rw_of1]
    · rfl
    · unfold mx at hf
      split at hf <;> omega
theorem few_add98 {To Lead : Int} {p : ByteArray} (hi : isB To Lead p = true) (h0 : Rw To Lead (cntS To Lead p).1 (cntS To Lead p).2.1 = 0) (n : Nat) : (n : Int) < mx To ((cntS To Lead p).1 + Lead) - (cntS To Lead p).2.1 → p.size + n ≤ 100 →
    isB To Lead (repS p ⟨#[98]⟩ n) = true ∧ (cntS To Lead (repS p ⟨#[98]⟩ n)).1 = (cntS To Lead p).1 ∧ (cntS To Lead (repS p ⟨#[98]⟩ n)).2.1 = (cntS To Lead p).2.1 + n ∧ Rw To Lead (cntS To Lead (repS p ⟨#[98]⟩ n)).1 (cntS To Lead (repS p ⟨#[98]⟩ n)).2.1 = 0 := by
  induction n with
  | zero =>
    intro _ _
    refine ⟨hi, rfl, ?_, h0⟩
    show (cntS To Lead p).2.1 = (cntS To Lead p).2.1 + 0
    omega
  | succ n ih =>
    intro h1 h2
    obtain ⟨i1, i2, i3, i4⟩ := ih (by omega) (by omega)
    have hsz : (repS p ⟨#[98]⟩ n).size < 100 := by
      rw [repS_size]
      show p.size + n * 1 < 100
      omega
    obtain ⟨j1, j2⟩ := isB_snoc (c := 98) i1 hsz i4 rfl
    rw [if_neg (by decide)] at j2
    obtain ⟨n1, n2⟩ := Rw_0 h0
    have e1 : (cntS To Lead (repS p ⟨#[98]⟩ (n + 1))).1 = (cntS To Lead p).1 := by
      show (cntS To Lead (repS p ⟨#[98]⟩ n ++ ⟨#[98]⟩)).1 = _
      rw [j2, i2]
    have e2 : (cntS To Lead (repS p ⟨#[98]⟩ (n + 1))).2.1 = (cntS To Lead p).2.1 + (n + 1 : Nat) := by
      show (cntS To Lead (repS p ⟨#[98]⟩ n ++ ⟨#[98]⟩)).2.1 = _
      rw [j2, i3]
      show (cntS To Lead p).2.1 + (n : Int) + 1 = _
      omega
    refine ⟨j1, e1, e2, ?_⟩
    rw [e1, e2]
    refine Rw_of0 ?_ ?_
    · omega
    · unfold mx at h1
      split at h1 <;> omega
theorem few_win98 {To Lead : Int} {p : ByteArray} (hi : isB To Lead p = true) (few : Nat) (h : fewV To Lead (cntS To Lead p).2.1 (cntS To Lead p).1 = ((few : Int), true)) (hz : p.size + few ≤ 100) : winV To Lead (repS p ⟨#[98]⟩ few) = (⟨#[98]⟩, true) := by
  obtain ⟨hg, _, _⟩ := isB_parts hi
  have hT := goodR_to hg
  rcases Rw_three To Lead (cntS To Lead p).1 (cntS To Lead p).2.1 with hr | hr | hr
  · have hw : wonB To Lead (cntS To Lead p).1 (cntS To Lead p).2.1 = true := Rw_one.1 hr
    unfold fewV at h
    rw [if_pos hw] at h
    exact absurd (Prod.mk.inj h).2 (by decide)
  · have hw := Rw_m hr
    have hm : fewV To Lead (cntS To Lead p).2.1 (cntS To Lead p).1 = (0, true) := by
      have e : wonB To Lead (cntS To Lead p).1 (cntS To Lead p).2.1 = false := by
        cases h2 : wonB To Lead (cntS To Lead p).1 (cntS To Lead p).2.1
        · rfl
        · have := Rw_one.2 h2
          rw [hr] at this
          cases this
      unfold fewV
      rw [e]
      simp only [Bool.false_eq_true, if_false]
      congr 1
      unfold mx
      repeat' split
      all_goals omega
    rw [hm] at h
    have hf : few = 0 := by
      have := (Prod.mk.inj h).1
      omega
    subst hf
    show winV To Lead p = _
    rw [winV_is hi, hr]
    rfl
  · obtain ⟨n1, n2⟩ := Rw_0 hr
    obtain ⟨e, g⟩ := fewV_open n2 n1
    rw [e] at h
    have hf := (Prod.mk.inj h).1
    obtain ⟨m, rfl⟩ : ∃ m, few = m + 1 := ⟨few - 1, by omega⟩
    obtain ⟨i1, i2, i3, i4⟩ := few_add98 hi hr m (by omega) (by omega)
    have hsz : (repS p ⟨#[98]⟩ m).size < 100 := by
      rw [repS_size]
      show p.size + m * 1 < 100
      omega
    obtain ⟨j1, j2⟩ := isB_snoc (c := 98) i1 hsz i4 rfl
    rw [if_neg (by decide)] at j2
    show winV To Lead (repS p ⟨#[98]⟩ m ++ ⟨#[98]⟩) = _
    rw [winV_is j1, j2]
    simp only
    rw [i2, i3]
    rw [Rw_ofm hT.2.1]
    · rfl
    · unfold mx at hf
      split at hf <;> omega
theorem app_step (acc : ByteArray) (x : UInt8) (l : List UInt8) : (acc ++ (⟨#[x]⟩ : ByteArray)) ++ (⟨l.toArray⟩ : ByteArray) = acc ++ (⟨(x :: l).toArray⟩ : ByteArray) := by
  apply ByteArray.ext
  simp [ByteArray.data_append]
theorem raTurn_l0 (s : ByteArray) (hs : s.size ≤ 1048576) (d : Nat) : ∀ (i : Nat) (acc : ByteArray), i + d = s.size → acc.size = i → (s.data.toList.drop i).all abB = true → Ev (fun k => spec_raTurn.l0 k s acc (i : Int)) (acc ++ (⟨((s.data.toList.drop i).map trB).toArray⟩ : ByteArray)) := by
  induction d with
  | zero =>
    intro i acc hi ha hall
    refine ev_some fun k => ?_
    simp only [spec_raTurn.l0]
    rw [if_neg (by omega), List.drop_of_length_le (by rw [len_data]; omega)]
    congr 1
    apply ByteArray.ext
    simp [ByteArray.data_append]
  | succ d ih =>
    intro i acc hi ha hall
    have hlt : i < s.data.toList.length := by rw [len_data]; omega
    have hw : wrap64 ((i : Int) + 1) = ((i + 1 : Nat) : Int) := by rw [wrap_id (by omega) (by omega)]; omega
    have hbt := bt_nat s i hlt
    rw [List.drop_eq_getElem_cons hlt] at hall ⊢
    rw [List.all_cons, Bool.and_eq_true] at hall
    obtain ⟨hc, hall⟩ := hall
    rw [List.map_cons]
    generalize s.data.toList[i] = c at hbt hc ⊢
    by_cases c1 : c = 97
    · have ht : trB c = 98 := by rw [c1]; rfl
      rw [ht, ← app_step]
      refine Ev.step (fun k => ?_) (ih (i + 1) (acc ++ (⟨#[98]⟩ : ByteArray)) (by omega) (by rw [ByteArray.size_append, ha]; rfl) hall)
      simp only [spec_raTurn.l0]
      rw [if_pos (by omega), if_pos (by omega), hbt, if_pos ((b97 _).2 c1), if_pos (by omega), hw]
    · have c2 : c = 98 := by
        unfold abB at hc
        simpa [c1] using hc
      have ht : trB c = 97 := by rw [c2]; rfl
      rw [ht, ← app_step]
      refine Ev.step (fun k => ?_) (ih (i + 1) (acc ++ (⟨#[97]⟩ : ByteArray)) (by omega) (by rw [ByteArray.size_append, ha]; rfl) hall)
      simp only [spec_raTurn.l0]
      rw [if_pos (by omega), if_pos (by omega), hbt, if_neg (fun h => c1 ((b97 _).1 h)), if_pos (by omega), hw]
theorem raTurn_ev (s : ByteArray) (hs : s.size ≤ 1048576) (h : pointsB s = true) : Ev (fun k => spec_raTurn.f k s) (trS s) := by
  have hall : s.data.toList.all abB = true := by
    unfold pointsB at h
    rw [Bool.and_eq_true] at h
    exact h.2
  have := raTurn_l0 s hs s.size 0 (⟨#[]⟩ : ByteArray) (by omega) rfl hall
  have e : ((⟨#[]⟩ : ByteArray) ++ (⟨((s.data.toList.drop 0).map trB).toArray⟩ : ByteArray)) = trS s := by
    apply ByteArray.ext
    simp [ByteArray.data_append, trS]
  rw [e] at this
  exact this
def lrun : Option UInt8 → List UInt8 → ByteArray → Int → Int → ByteArray × Int
  | _, [], side, best, _ => (side, best)
  | p, c :: l, side, best, now => if (if p = some c then now + 1 else 1) > best then lrun (some c) l ⟨#[c]⟩ (if p = some c then now + 1 else 1) (if p = some c then now + 1 else 1) else lrun (some c) l side best (if p = some c then now + 1 else 1)
theorem extract_eq (s : ByteArray) (i : Nat) (h : i < s.data.toList.length) : s.extract i (i + 1) = ⟨#[s.data.toList[i]]⟩ := by
  have := extract_one s i h
  rw [Lib.toList_data] at this
  apply ByteArray.ext
  apply Array.toList_inj.1
  exact this
theorem run_j2 (s : ByteArray) (hs : s.size ≤ 1048576) (i : Nat) (hi : i < s.size) (side : ByteArray) (best now : Int) (h0 : 0 ≤ best ∧ best ≤ i) (h1 : 0 ≤ now ∧ now ≤ i) (V : ByteArray → Int → Int → ByteArray × Int × Bool)
    (ih : ∀ (side : ByteArray) (best now : Int), 0 ≤ best ∧ best ≤ (i + 1 : Nat) → 0 ≤ now ∧ now ≤ (i + 1 : Nat) → Ev (fun k => spec_LongestRun.l0 k s side best now ((i + 1 : Nat) : Int)) (V side best now) ∧ Ev (fun k => impl_LongestRun.l0 k s side best now (s.size : Int) ((i + 1 : Nat) : Int)) (V side best now)) (b : Bool) :
    Ev (fun k => spec_LongestRun.j2 k s side best now (i : Int) (!b)) (if (if b = true then now + 1 else 1) > best then V (s.extract i (i + 1)) (if b = true then now + 1 else 1) (if b = true then now + 1 else 1) else V side best (if b = true then now + 1 else 1)) ∧ Ev (fun k => impl_LongestRun.j2 k s side best now (i : Int) (s.size : Int) (i : Int) b) (if (if b = true then now + 1 else 1) > best then V (s.extract i (i + 1)) (if b = true then now + 1 else 1) (if b = true then now + 1 else 1) else V side best (if b = true then now + 1 else 1)) := by
  have hwi : wrap64 ((i : Int) + 1) = ((i + 1 : Nat) : Int) := by rw [wrap_id (by omega) (by omega)]; omega
  have hwn : wrap64 (now + 1) = now + 1 := wrap_id (by omega) (by omega)
  cases b
  · simp only [Bool.false_eq_true, if_false]
    by_cases hg : (1 : Int) > best
    · rw [if_pos hg]
      obtain ⟨hv1, hv2⟩ := ih (s.extract i (i + 1)) 1 1 (by omega) (by omega)
      refine ⟨Ev.step (fun k => ?_) hv1, Ev.step (fun k => ?_) hv2⟩
      · simp only [spec_LongestRun.j2, Bool.not_false, if_true, hwi]
        rw [if_pos hg, if_pos (by omega), if_pos (by omega), if_pos (by omega), Int.toNat_natCast, Int.toNat_natCast]
      · simp only [impl_LongestRun.j2, Bool.false_eq_true, if_false, hwi]
        rw [if_pos hg, if_pos (by omega), if_pos (by omega), if_pos (by omega), Int.toNat_natCast, Int.toNat_natCast]
    · rw [if_neg hg]
      obtain ⟨hv1, hv2⟩ := ih side best 1 (by omega) (by omega)
      refine ⟨Ev.step (fun k => ?_) hv1, Ev.step (fun k => ?_) hv2⟩
      · simp only [spec_LongestRun.j2, Bool.not_false, if_true, hwi]
        rw [if_neg hg]
      · simp only [impl_LongestRun.j2, Bool.false_eq_true, if_false, hwi]
        rw [if_neg hg]
  · simp only [if_true]
    by_cases hg : now + 1 > best
    · rw [if_pos hg]
      obtain ⟨hv1, hv2⟩ := ih (s.extract i (i + 1)) (now + 1) (now + 1) (by omega) (by omega)
      refine ⟨Ev.step (fun k => ?_) hv1, Ev.step (fun k => ?_) hv2⟩
      · simp only [spec_LongestRun.j2, Bool.not_true, Bool.false_eq_true, if_false, hwi, hwn]
        rw [if_pos hg, if_pos (by omega), if_pos (by omega), if_pos (by omega), Int.toNat_natCast, Int.toNat_natCast]
      · simp only [impl_LongestRun.j2, if_true, hwi, hwn]
        rw [if_pos hg, if_pos (by omega), if_pos (by omega), if_pos (by omega), Int.toNat_natCast, Int.toNat_natCast]
    · rw [if_neg hg]
      obtain ⟨hv1, hv2⟩ := ih side best (now + 1) (by omega) (by omega)
      refine ⟨Ev.step (fun k => ?_) hv1, Ev.step (fun k => ?_) hv2⟩
      · simp only [spec_LongestRun.j2, Bool.not_true, Bool.false_eq_true, if_false, hwi, hwn]
        rw [if_neg hg]
      · simp only [impl_LongestRun.j2, if_true, hwi, hwn]
        rw [if_neg hg]
def lrV (p : Option UInt8) (l : List UInt8) (side : ByteArray) (best now : Int) : ByteArray × Int × Bool := ((lrun p l side best now).1, (lrun p l side best now).2, true)
def prevOf (l : List UInt8) (i : Nat) : Option UInt8 := if i = 0 then none else l[i - 1]?
theorem lrV_cons (p : Option UInt8) (c : UInt8) (l : List UInt8) (side : ByteArray) (best now : Int) (b : Bool) (hb : (p = some c) ↔ b = true) : lrV p (c :: l) side best now = if (if b = true then now + 1 else 1) > best then lrV (some c) l ⟨#[c]⟩ (if b = true then now + 1 else 1) (if b = true then now + 1 else 1) else lrV (some c) l side best (if b = true then now + 1 else 1) := by
  unfold lrV
  simp only [lrun]
  cases b
  · have : ¬ p = some c := fun h => absurd (hb.1 h) (by decide)
    simp only [this, if_false, Bool.false_eq_true]
    split <;> rfl
  · have : p = some c := hb.2 rfl
    simp only [this, if_true]
    split <;> rfl
theorem run_l0 (s : ByteArray) (hs : s.size ≤ 1048576) (d : Nat) : ∀ (i : Nat) (side : ByteArray) (best now : Int), i + d = s.size → 0 ≤ best ∧ best ≤ i → 0 ≤ now ∧ now ≤ i →
    Ev (fun k => spec_LongestRun.l0 k s side best now (i : Int)) (lrV (prevOf s.data.toList i) (s.data.toList.drop i) side best now) ∧ Ev (fun k => impl_LongestRun.l0 k s side best now (s.size : Int) (i : Int)) (lrV (prevOf s.data.toList i) (s.data.toList.drop i) side best now) := by
  induction d with
  | zero =>
    intro i side best now hi _ _
    rw [List.drop_of_length_le (by rw [len_data]; omega)]
    refine ⟨ev_some fun k => ?_, ev_some fun k => ?_⟩
    · simp only [spec_LongestRun.l0]
      rw [if_neg (by omega)]
      rfl
    · simp only [impl_LongestRun.l0]
      rw [if_neg (by omega)]
      rfl
  | succ d ih =>
    intro i side best now hi h0 h1
    have hlt : i < s.size := by omega
    have hlt2 : i < s.data.toList.length := by rw [len_data]; omega
    have hj := run_j2 s hs i hlt side best now h0 h1 (fun side best now => lrV (prevOf s.data.toList (i + 1)) (s.data.toList.drop (i + 1)) side best now) (fun side best now a b => ih (i + 1) side best now (by omega) a b)
    have hpn : prevOf s.data.toList (i + 1) = some s.data.toList[i] := by
      unfold prevOf
      rw [if_neg (by omega), Nat.add_sub_cancel, List.getElem?_eq_getElem hlt2]
    rw [hpn, extract_eq s i hlt2] at hj
    rw [List.drop_eq_getElem_cons hlt2]
    by_cases hz : i = 0
    · subst hz
      have hl := lrV_cons (prevOf s.data.toList 0) (s.data.toList[0]) (s.data.toList.drop (0 + 1)) side best now false (by unfold prevOf; rw [if_pos rfl]; simp)
      rw [hl]
      obtain ⟨hv1, hv2⟩ := hj false
      refine ⟨Ev.step (fun k => ?_) hv1, Ev.step (fun k => ?_) hv2⟩
      · simp only [spec_LongestRun.l0]
        rw [if_pos (by omega), if_pos (by omega)]
        rfl
      · simp only [impl_LongestRun.l0]
        rw [if_pos (by omega), if_neg (by omega)]
    · have hwm : wrap64 ((i : Int) - 1) = (i : Int) - 1 := wrap_id (by omega) (by omega)
      have hlt3 : i - 1 < s.data.toList.length := by rw [len_data]; omega
      have hb1 := bt_nat s i hlt2
      have hb0 := bt_nat s (i - 1) hlt3
      rw [show ((i - 1 : Nat) : Int) = (i : Int) - 1 by omega] at hb0
      have hl := lrV_cons (prevOf s.data.toList i) (s.data.toList[i]) (s.data.toList.drop (i + 1)) side best now (bt s i == bt s ((i : Int) - 1)) (by
        unfold prevOf
        rw [if_neg hz, List.getElem?_eq_getElem hlt3, hb1, hb0, beq_iff_eq]
        constructor
        · intro h
          rw [Option.some.inj h]
        · intro h
          congr 1
          exact UInt8.toNat_inj.1 (by omega))
      rw [hl]
      obtain ⟨hv1, hv2⟩ := hj (bt s i == bt s ((i : Int) - 1))
      have e : (!(bt s i == bt s ((i : Int) - 1))) = (bt s ((i : Int) - 1) != bt s i) := by
        show _ = !(bt s ((i : Int) - 1) == bt s i)
        congr 1
        rw [Bool.eq_iff_iff, beq_iff_eq, beq_iff_eq]
        exact eq_comm
      rw [e] at hv1
      refine ⟨Ev.step (fun k => ?_) hv1, Ev.step (fun k => ?_) hv2⟩
      · simp only [spec_LongestRun.l0, hwm]
        rw [if_pos (by omega), if_neg (by omega), if_pos (by omega), if_pos (by omega), if_pos (by omega)]
      · simp only [impl_LongestRun.l0, hwm]
        rw [if_pos (by omega), if_pos (by omega), if_pos (by omega), if_pos (by omega), if_pos (by omega), if_pos (by omega)]
theorem run_both (s : ByteArray) (hs2 : s.size ≤ 1048576) : Ev (fun k => spec_LongestRun.f k s) (if pointsB s = true ∧ (s.toList == ([] : List UInt8)) = false then lrV none s.data.toList ⟨#[]⟩ 0 0 else (⟨#[]⟩, 0, false)) ∧ Ev (fun k => impl_LongestRun.f k s) (if pointsB s = true ∧ (s.toList == ([] : List UInt8)) = false then lrV none s.data.toList ⟨#[]⟩ 0 0 else (⟨#[]⟩, 0, false)) := by
  unfold spec_LongestRun.f impl_LongestRun.f
  rw [isPoints_eq]
  simp only [Option.bind_some]
  have hp := raPoints_ev s hs2
  have no : Ev (fun k => spec_LongestRun.j0 k s true) ((⟨#[]⟩ : ByteArray), 0, false) ∧ Ev (fun k => impl_LongestRun.j0 k s true) ((⟨#[]⟩ : ByteArray), 0, false) :=
    ⟨ev_some fun k => by simp [spec_LongestRun.j0], ev_some fun k => by simp [impl_LongestRun.j0]⟩
  cases hb : pointsB s
  · rw [hb] at hp
    rw [if_neg (fun h => absurd h.1 (by decide))]
    refine ⟨Ev.bind hp ?_, ?_⟩
    · simp only [Bool.false_eq_true, if_false]
      exact no.1
    · simp only [Bool.false_eq_true, if_false]
      exact no.2
  · rw [hb] at hp
    cases he : (s.toList == ([] : List UInt8))
    · rw [if_pos ⟨rfl, rfl⟩]
      obtain ⟨hv1, hv2⟩ := run_l0 s hs2 s.size 0 (⟨#[]⟩ : ByteArray) 0 0 (by omega) (by omega) (by omega)
      have hp0 : prevOf s.data.toList 0 = none := by unfold prevOf; rw [if_pos rfl]
      rw [hp0, List.drop_zero] at hv1 hv2
      refine ⟨Ev.bind hp ?_, ?_⟩
      · simp only [if_true]
        refine Ev.step (f := fun k => spec_LongestRun.l0 k s (⟨#[]⟩ : ByteArray) 0 0 0) (fun k => by simp [spec_LongestRun.j0]) ?_
        simpa using hv1
      · simp only [if_true]
        refine Ev.step (f := fun k => impl_LongestRun.l0 k s (⟨#[]⟩ : ByteArray) 0 0 (s.size : Int) 0) (fun k => by simp [impl_LongestRun.j0]) ?_
        simpa using hv2
    · rw [if_neg (fun h => absurd h.2 (by decide))]
      refine ⟨Ev.bind hp ?_, ?_⟩
      · simp only [if_true]
        exact no.1
      · simp only [if_true]
        exact no.2
theorem lrun_bd (l : List UInt8) : ∀ (p : Option UInt8) (side : ByteArray) (best now m : Int), best ≤ m → 0 ≤ now → now + l.length ≤ m → best ≤ (lrun p l side best now).2 ∧ (lrun p l side best now).2 ≤ m := by
  induction l with
  | nil => intro p side best now m h1 _ _; exact ⟨Int.le_refl _, h1⟩
  | cons c l ih =>
    intro p side best now m h1 h2 h3
    rw [List.length_cons] at h3
    simp only [lrun]
    have hn : ∃ n : Int, (if p = some c then now + 1 else 1) = n ∧ 0 ≤ n ∧ n ≤ now + 1 := by
      split
      · exact ⟨_, rfl, by omega, by omega⟩
      · exact ⟨_, rfl, by omega, by omega⟩
    obtain ⟨n, hn, hn0, hn1⟩ := hn
    rw [hn]
    split
    · have := ih (some c) ⟨#[c]⟩ n n m (by omega) hn0 (by omega)
      omega
    · exact ih (some c) side best n m h1 hn0 (by omega)
theorem lrun_side (P : UInt8 → Prop) (l : List UInt8) (hl : ∀ c ∈ l, P c) : ∀ (p : Option UInt8) (side : ByteArray) (best now : Int), (∃ c, P c ∧ side = ⟨#[c]⟩) → ∃ c, P c ∧ (lrun p l side best now).1 = ⟨#[c]⟩ := by
  induction l with
  | nil => intro p side best now h; exact h
  | cons c l ih =>
    intro p side best now h
    have hc := hl c (List.mem_cons_self ..)
    have ih2 := ih (fun x hx => hl x (List.mem_cons_of_mem _ hx))
    simp only [lrun]
    generalize (if p = some c then now + 1 else 1) = n
    split
    · exact ih2 _ _ _ _ ⟨c, hc, rfl⟩
    · exact ih2 _ _ _ _ h
theorem trB_tr (x : UInt8) : trB (trB x) = x := by
  unfold trB
  by_cases h : x = 97
  · subst h
    rfl
  · by_cases h2 : x = 98
    · subst h2
      rfl
    · simp only [h, h2, if_false]
theorem lrun_turn (l : List UInt8) : ∀ (p : Option UInt8) (side : ByteArray) (best now : Int), lrun (p.map trB) (l.map trB) (trS side) best now = (trS (lrun p l side best now).1, (lrun p l side best now).2) := by
  induction l with
  | nil => intro p side best now; rfl
  | cons c l ih =>
    intro p side best now
    have hp : (p.map trB = some (trB c)) ↔ p = some c := by
      cases p with
      | none => simp
      | some x =>
        simp only [Option.map_some, Option.some.injEq]
        constructor
        · intro h
          rw [← trB_tr x, h, trB_tr]
        · intro h
          rw [h]
    simp only [List.map_cons, lrun]
    have e : (if p.map trB = some (trB c) then now + 1 else 1) = (if p = some c then now + 1 else 1) := by
      by_cases h : p = some c
      · rw [if_pos h, if_pos (hp.2 h)]
      · rw [if_neg h, if_neg (fun h' => h (hp.1 h'))]
    rw [e]
    generalize (if p = some c then now + 1 else 1) = n
    split
    · exact ih (some c) ⟨#[c]⟩ _ _
    · exact ih (some c) side _ _
theorem turn_ev (s : ByteArray) (hs2 : s.size ≤ 1048576) : Ev (fun k => spec_TurnPlay.f k s) (if pointsB s = true then (trS s, true) else ((⟨#[]⟩ : ByteArray), false)) := by
  unfold spec_TurnPlay.f
  refine Ev.bind (raPoints_ev s hs2) ?_
  cases hp : pointsB s
  · exact Ev.now _
  · simp only [if_true]
    exact Ev.bind (f := fun _ t => some (t, true)) (raTurn_ev s hs2 hp) (Ev.now _)
theorem turn_eq (s : ByteArray) : impl_TurnPlay.f s = some (if pointsB s = true then (trS s, true) else ((⟨#[]⟩ : ByteArray), false)) := by
  unfold impl_TurnPlay.f
  rw [isPoints_eq]
  cases pointsB s <;> rfl
theorem trS_size (s : ByteArray) : (trS s).size = s.size := by
  show (s.data.toList.map trB).toArray.size = s.data.size
  simp
theorem trS_points {s : ByteArray} (h : pointsB s = true) : pointsB (trS s) = true := by
  have ha := pointsB_all h
  have hz := pointsB_size h
  unfold pointsB
  rw [trS_size]
  have e : (trS s).data.toList = s.data.toList.map trB := by simp [trS]
  rw [e, List.all_map]
  have : s.data.toList.all (abB ∘ trB) = true := by
    rw [List.all_eq_true]
    intro c hc
    rcases abB_or (List.all_eq_true.1 ha c hc) with h | h <;> rw [h] <;> rfl
  rw [this]
  simp
  omega
theorem str_snoc97 (xs : List Int) : strOfNums xs ++ (⟨#[97]⟩ : ByteArray) = strOfNums (xs ++ [97]) := by
  apply ByteArray.ext
  simp [strOfNums]
theorem str_snoc98 (xs : List Int) : strOfNums xs ++ (⟨#[98]⟩ : ByteArray) = strOfNums (xs ++ [98]) := by
  apply ByteArray.ext
  simp [strOfNums]
theorem ab_cut0 : (⟨#[97, 98]⟩ : ByteArray).extract 0 1 = ⟨#[97]⟩ := by
  apply ByteArray.ext
  rw [ByteArray.data_extract]
  rfl
theorem ab_cut1 : (⟨#[97, 98]⟩ : ByteArray).extract 1 2 = ⟨#[98]⟩ := by
  apply ByteArray.ext
  rw [ByteArray.data_extract]
  rfl
def srv (t : Int) (i : Nat) : Int := if ((i : Int) / t) % 2 = 0 then 97 else 98
def srvL (t : Int) (n : Nat) : List Int := (List.range n).map (srv t)
theorem srvL_succ (t : Int) (n : Nat) : srvL t (n + 1) = srvL t n ++ [srv t n] := by simp [srvL, List.range_succ]
theorem srvL_len (t : Int) (n : Nat) : (srvL t n).length = n := by simp [srvL]
theorem str_size (xs : List Int) : (strOfNums xs).size = xs.length := by
  show (strOfNums xs).data.size = _
  simp [strOfNums]
theorem turn_div (t : Int) (ht : 1 ≤ t ∧ t ≤ 10) (i : Nat) (hi : i ≤ 1048576) : wrap64 (Int.tdiv (i : Int) t) = (i : Int) / t ∧ (Int.tmod ((i : Int) / t) 2 = 0 ∨ Int.tmod ((i : Int) / t) 2 = 1) ∧ (Int.tmod ((i : Int) / t) 2 = 0 ↔ ((i : Int) / t) % 2 = 0) := by
  have h0 : (0 : Int) ≤ (i : Int) / t := Int.ediv_nonneg (by omega) (by omega)
  have h1 : (i : Int) / t ≤ i := Int.ediv_le_self _ (by omega)
  have e : Int.tdiv (i : Int) t = (i : Int) / t := Int.tdiv_eq_ediv_of_nonneg (by omega)
  have e2 : Int.tmod ((i : Int) / t) 2 = ((i : Int) / t) % 2 := Int.tmod_eq_emod_of_nonneg h0
  refine ⟨by rw [e, wrap_id (by omega) (by omega)], ?_, by rw [e2]⟩
  rw [e2]
  omega
theorem servers_l0 (n : Nat) (hs : n ≤ 1048576) (t : Int) (ht : 1 ≤ t ∧ t ≤ 10) (d : Nat) : ∀ i : Nat, i + d = n → Ev (fun k => impl_ServersOf.l0 k t (srvL t i) (n : Int) (i : Int)) (strOfNums (srvL t n), true) := by
  induction d with
  | zero =>
    intro i hi
    obtain rfl : i = n := by omega
    refine ev_some fun k => ?_
    simp only [impl_ServersOf.l0]
    rw [if_neg (by omega)]
  | succ d ih =>
    intro i hi
    have hn := ih (i + 1) (by omega)
    obtain ⟨e1, e2, e3⟩ := turn_div t ht i (by omega)
    have hwi : wrap64 ((i : Int) + 1) = ((i + 1 : Nat) : Int) := by rw [wrap_id (by omega) (by omega)]; omega
    rw [srvL_succ] at hn
    refine Ev.step (fun k => ?_) hn
    simp only [impl_ServersOf.l0]
    rw [if_pos (by omega), if_neg (by omega), e1, hwi]
    rcases e2 with h | h
    · have hv : srv t i = 97 := by unfold srv; rw [if_pos (e3.1 h)]
      rw [h, if_pos (by omega), if_pos (by omega), if_pos (by rw [srvL_len]; omega), hv]
      rfl
    · have hv : srv t i = 98 := by unfold srv; rw [if_neg (fun h' => by have := e3.2 h'; omega)]
      rw [h, if_pos (by omega), if_pos (by omega), if_pos (by rw [srvL_len]; omega), hv]
      rfl
theorem raServers_l0 (s : ByteArray) (hs : s.size ≤ 1048576) (t : Int) (ht : 1 ≤ t ∧ t ≤ 10) (d : Nat) : ∀ i : Nat, i + d = s.size → Ev (fun k => spec_raServers.l0 k s t (strOfNums (srvL t i)) (i : Int)) (strOfNums (srvL t s.size)) := by
  induction d with
  | zero =>
    intro i hi
    obtain rfl : i = s.size := by omega
    refine ev_some fun k => ?_
    simp only [spec_raServers.l0]
    rw [if_neg (by omega)]
  | succ d ih =>
    intro i hi
    have hn := ih (i + 1) (by omega)
    obtain ⟨e1, e2, e3⟩ := turn_div t ht i (by omega)
    have hwi : wrap64 ((i : Int) + 1) = ((i + 1 : Nat) : Int) := by rw [wrap_id (by omega) (by omega)]; omega
    have hsz : (strOfNums (srvL t i)).size = i := by rw [str_size, srvL_len]
    rw [srvL_succ] at hn
    refine Ev.step (fun k => ?_) hn
    simp only [spec_raServers.l0]
    rw [if_pos (by omega), if_neg (by omega), e1, hwi]
    rcases e2 with h | h
    · have hv : srv t i = 97 := by unfold srv; rw [if_pos (e3.1 h)]
      rw [h, wrap_id (i := (0 : Int) + 1) (by omega) (by omega), if_pos (by omega), if_pos (by omega), if_pos (by omega), hv]
      rw [show ((0 : Int).toNat) = 0 from rfl, show (((0 : Int) + 1).toNat) = 1 from rfl, ab_cut0, if_pos (by rw [hsz]; show i + 1 ≤ _; omega), str_snoc97]
    · have hv : srv t i = 98 := by unfold srv; rw [if_neg (fun h' => by have := e3.2 h'; omega)]
      rw [h, wrap_id (i := (1 : Int) + 1) (by omega) (by omega), if_pos (by omega), if_pos (by omega), if_pos (by omega), hv]
      rw [show ((1 : Int).toNat) = 1 from rfl, show (((1 : Int) + 1).toNat) = 2 from rfl, ab_cut1, if_pos (by rw [hsz]; show i + 1 ≤ _; omega), str_snoc98]
theorem raServers_ev (s : ByteArray) (hs : s.size ≤ 1048576) (t : Int) (ht : 1 ≤ t ∧ t ≤ 10) : Ev (fun k => spec_raServers.f k s t) (strOfNums (srvL t s.size)) := by
  have := raServers_l0 s hs t ht s.size 0 (by omega)
  simpa [spec_raServers.f, srvL, strOfNums] using this
theorem servers_both (s : ByteArray) (hs : s.size ≤ 1048576) (t : Int) : ∃ v : ByteArray × Bool, Ev (fun k => spec_ServersOf.f k s t) v ∧ Ev (fun k => impl_ServersOf.f k s t) v ∧ (v = ((⟨#[]⟩ : ByteArray), false) ∧ (pointsB s && decide (1 ≤ t ∧ t ≤ 10)) = false ∨ v = (strOfNums (srvL t s.size), true) ∧ (pointsB s && decide (1 ≤ t ∧ t ≤ 10)) = true) := by
  unfold spec_ServersOf.f impl_ServersOf.f
  rw [isPoints_eq]
  simp only [Option.bind_some]
  have hp := raPoints_ev s hs
  cases hb : pointsB s
  · rw [hb] at hp
    refine ⟨((⟨#[]⟩ : ByteArray), false), Ev.bind hp ?_, ?_, Or.inl ⟨rfl, rfl⟩⟩
    · simp only [Bool.false_eq_true, if_false]
      exact Ev.now _
    · simp only [Bool.false_eq_true, if_false]
      exact ev_some fun k => by simp [impl_ServersOf.j0]
  · rw [hb] at hp
    cases ht : decide (1 ≤ t ∧ t ≤ 10)
    · refine ⟨((⟨#[]⟩ : ByteArray), false), Ev.bind hp ?_, ?_, Or.inl ⟨rfl, rfl⟩⟩
      · simp only [if_true, l1In_eq, ht, Option.bind_some, Bool.false_eq_true, if_false]
        exact Ev.now _
      · simp only [if_true, within_eq, ht, Option.bind_some, Bool.not_false]
        exact ev_some fun k => by simp [impl_ServersOf.j0]
    · have ht2 := of_decide_eq_true ht
      refine ⟨(strOfNums (srvL t s.size), true), Ev.bind hp ?_, ?_, Or.inr ⟨rfl, rfl⟩⟩
      · simp only [if_true, l1In_eq, ht, Option.bind_some]
        exact Ev.bind (f := fun _ t103 => some (t103, true)) (raServers_ev s hs t ht2) (Ev.now _)
      · simp only [if_true, within_eq, ht, Option.bind_some, Bool.not_true]
        refine Ev.step (f := fun k => impl_ServersOf.l0 k t (([] : List Int)) (s.size : Int) 0) (fun k => by simp [impl_ServersOf.j0]) ?_
        have := servers_l0 s.size hs t ht2 s.size 0 (by omega)
        simpa [srvL] using this
theorem pos_l0 (s v : ByteArray) (hs : s.size ≤ 1048576) (hz : v.size = s.size) (hab : s.data.toList.all abB = true) (d : Nat) : ∀ (i : Nat) (a b : Int), i + d = s.size → 0 ≤ a ∧ a ≤ i → 0 ≤ b ∧ b ≤ i →
    Ev (fun k => spec_PointsOnServe.l0 k s a b v (i : Int)) (a + served 97 (s.data.toList.drop i) (v.data.toList.drop i), b + served 98 (s.data.toList.drop i) (v.data.toList.drop i), true) := by
  induction d with
  | zero =>
    intro i a b hi _ _
    refine ev_some fun k => ?_
    simp only [spec_PointsOnServe.l0]
    rw [if_neg (by omega), List.drop_of_length_le (by rw [len_data]; omega)]
    simp [served]
  | succ d ih =>
    intro i a b hi h0 h1
    have hlt : i < s.data.toList.length := by rw [len_data]; omega
    have hlt2 : i < v.data.toList.length := by rw [len_data]; omega
    have hwi : wrap64 ((i : Int) + 1) = ((i + 1 : Nat) : Int) := by rw [wrap_id (by omega) (by omega)]; omega
    have hwa : wrap64 (a + 1) = a + 1 := wrap_id (by omega) (by omega)
    have hwb : wrap64 (b + 1) = b + 1 := wrap_id (by omega) (by omega)
    have hb1 := bt_nat s i hlt
    have hb2 := bt_nat v i hlt2
    have hx : abB (s.data.toList[i]) = true := List.all_eq_true.1 hab _ (List.getElem_mem hlt)
    rw [List.drop_eq_getElem_cons hlt, List.drop_eq_getElem_cons hlt2]
    generalize s.data.toList[i] = x at hb1 hx ⊢
    generalize v.data.toList[i] = y at hb2 ⊢
    by_cases he : x = y
    · subst he
      by_cases h97 : x = 97
      · have hn := ih (i + 1) (a + 1) b (by omega) (by omega) (by omega)
        have e1 : a + served 97 (x :: s.data.toList.drop (i + 1)) (x :: v.data.toList.drop (i + 1)) = a + 1 + served 97 (s.data.toList.drop (i + 1)) (v.data.toList.drop (i + 1)) := by
          simp only [served]
          rw [if_pos ⟨trivial, h97⟩]
          omega
        have e2 : b + served 98 (x :: s.data.toList.drop (i + 1)) (x :: v.data.toList.drop (i + 1)) = b + served 98 (s.data.toList.drop (i + 1)) (v.data.toList.drop (i + 1)) := by
          simp only [served]
          rw [if_neg (fun h => by rw [h97] at h; exact absurd h.2 (by decide))]
          omega
        rw [e1, e2]
        refine Ev.step (fun k => ?_) hn
        simp only [spec_PointsOnServe.l0, hb1, hb2, hwi, hwa]
        rw [if_pos (by omega), if_pos (by omega), if_pos (by omega), if_pos trivial, if_pos ((b97 _).2 h97)]
      · have h98 : x = 98 := by
          unfold abB at hx
          simp only [Bool.or_eq_true, beq_iff_eq] at hx
          exact hx.resolve_left h97
        have hn := ih (i + 1) a (b + 1) (by omega) (by omega) (by omega)
        have e1 : a + served 97 (x :: s.data.toList.drop (i + 1)) (x :: v.data.toList.drop (i + 1)) = a + served 97 (s.data.toList.drop (i + 1)) (v.data.toList.drop (i + 1)) := by
          simp only [served]
          rw [if_neg (fun h => h97 h.2)]
          omega
        have e2 : b + served 98 (x :: s.data.toList.drop (i + 1)) (x :: v.data.toList.drop (i + 1)) = b + 1 + served 98 (s.data.toList.drop (i + 1)) (v.data.toList.drop (i + 1)) := by
          simp only [served]
          rw [if_pos ⟨trivial, h98⟩]
          omega
        rw [e1, e2]
        refine Ev.step (fun k => ?_) hn
        simp only [spec_PointsOnServe.l0, hb1, hb2, hwi, hwb]
        rw [if_pos (by omega), if_pos (by omega), if_pos (by omega), if_pos trivial, if_neg (fun h => h97 ((b97 _).1 h))]
    · have hn := ih (i + 1) a b (by omega) (by omega) (by omega)
      have e1 : a + served 97 (x :: s.data.toList.drop (i + 1)) (y :: v.data.toList.drop (i + 1)) = a + served 97 (s.data.toList.drop (i + 1)) (v.data.toList.drop (i + 1)) := by
        simp only [served]
        rw [if_neg (fun h => he h.1)]
        omega
      have e2 : b + served 98 (x :: s.data.toList.drop (i + 1)) (y :: v.data.toList.drop (i + 1)) = b + served 98 (s.data.toList.drop (i + 1)) (v.data.toList.drop (i + 1)) := by
        simp only [served]
        rw [if_neg (fun h => he h.1)]
        omega
      have hne : ¬ ((x.toNat : Int) = (y.toNat : Int)) := fun h => he (UInt8.toNat_inj.1 (by omega))
      rw [e1, e2]
      refine Ev.step (fun k => ?_) hn
      simp only [spec_PointsOnServe.l0, hb1, hb2, hwi]
      rw [if_pos (by omega), if_pos (by omega), if_pos (by omega), if_neg hne]
theorem serve_both (s : ByteArray) (hs : s.size ≤ 1048576) (t : Int) : ∃ v : Int × Int × Bool, Ev (fun k => spec_PointsOnServe.f k s t) v ∧ Ev (fun k => impl_PointsOnServe.f k s t) v ∧ (v = (0, 0, false) ∧ (pointsB s && decide (1 ≤ t ∧ t ≤ 10)) = false ∨ v = (served 97 s.data.toList (strOfNums (srvL t s.size)).data.toList, served 98 s.data.toList (strOfNums (srvL t s.size)).data.toList, true) ∧ (pointsB s && decide (1 ≤ t ∧ t ≤ 10)) = true) := by
  unfold spec_PointsOnServe.f impl_PointsOnServe.f
  have hp := raPoints_ev s hs
  have no1 : Ev (fun k => spec_PointsOnServe.j0 k s t true) (0, 0, false) := ev_some fun k => by simp [spec_PointsOnServe.j0]
  have no2 : Ev (fun k => impl_ServersOf.j0 k s t true) ((⟨#[]⟩ : ByteArray), false) := ev_some fun k => by simp [impl_ServersOf.j0]
  cases hb : pointsB s
  · rw [hb] at hp
    refine ⟨(0, 0, false), Ev.bind hp ?_, Ev.bind (show Ev (fun k => impl_ServersOf.f k s t) ((⟨#[]⟩ : ByteArray), false) from ?_) ?_, Or.inl ⟨rfl, rfl⟩⟩
    · simp only [Bool.false_eq_true, if_false]
      exact no1
    · unfold impl_ServersOf.f
      rw [isPoints_eq, hb]
      exact no2
    · exact Ev.now _
  · rw [hb] at hp
    cases ht : decide (1 ≤ t ∧ t ≤ 10)
    · refine ⟨(0, 0, false), Ev.bind hp ?_, Ev.bind (show Ev (fun k => impl_ServersOf.f k s t) ((⟨#[]⟩ : ByteArray), false) from ?_) ?_, Or.inl ⟨rfl, rfl⟩⟩
      · simp only [if_true, l1In_eq, ht, Option.bind_some, Bool.not_false]
        exact no1
      · unfold impl_ServersOf.f
        rw [isPoints_eq, hb]
        simp only [Option.bind_some, if_true, within_eq, ht, Bool.not_false]
        exact no2
      · exact Ev.now _
    · have ht2 := of_decide_eq_true ht
      have hz : (strOfNums (srvL t s.size)).size = s.size := by rw [str_size, srvL_len]
      refine ⟨(served 97 s.data.toList (strOfNums (srvL t s.size)).data.toList, served 98 s.data.toList (strOfNums (srvL t s.size)).data.toList, true), Ev.bind hp ?_, Ev.bind (show Ev (fun k => impl_ServersOf.f k s t) (strOfNums (srvL t s.size), true) from ?_) ?_, Or.inr ⟨rfl, rfl⟩⟩
      · simp only [if_true, l1In_eq, ht, Option.bind_some, Bool.not_true]
        refine Ev.step (f := fun k => (spec_raServers.f k s t).bind fun t103 => (spec_PointsOnServe.l0 k s 0 0 t103 0)) (fun k => by simp [spec_PointsOnServe.j0]) ?_
        refine Ev.bind (raServers_ev s hs t ht2) ?_
        have := pos_l0 s (strOfNums (srvL t s.size)) hs hz (pointsB_all hb) s.size 0 0 0 (by omega) (by omega) (by omega)
        simpa using this
      · unfold impl_ServersOf.f
        rw [isPoints_eq, hb]
        simp only [Option.bind_some, if_true, within_eq, ht, Bool.not_true]
        refine Ev.step (f := fun k => impl_ServersOf.l0 k t (([] : List Int)) (s.size : Int) 0) (fun k => by simp [impl_ServersOf.j0]) ?_
        have := servers_l0 s.size hs t ht2 s.size 0 (by omega)
        simpa [srvL] using this
      · simp only [if_true]
        rw [if_pos ⟨hs, hz, pointsB_all hb⟩]
        exact Ev.now _
theorem rdS (l : List ByteArray) (n : Nat) (h : n < l.length) : rdOf ByteArray.empty l (n : Int) = l[n] := by
  unfold rdOf
  simp [List.getD_eq_getElem?_getD, List.getElem?_eq_getElem h]
def matchGo (To Lead wins : Int) : List ByteArray → Int → Int → ByteArray × Bool
  | [], a, b => ((if wins = a then (⟨#[97]⟩ : ByteArray) else if wins = b then (⟨#[98]⟩ : ByteArray) else (⟨#[45]⟩ : ByteArray)), true)
  | p :: l, a, b => if a = wins ∨ b = wins then (⟨#[]⟩, false) else if decided To Lead p = 1 then matchGo To Lead wins l (a + 1) b else if decided To Lead p = 2 then matchGo To Lead wins l a (b + 1) else (⟨#[]⟩, false)
theorem code_le (r : Int) : code r = 0 ∨ code r = 1 ∨ code r = 2 := by
  unfold code
  repeat' split
  all_goals simp
theorem decided_le (To Lead : Int) (s : ByteArray) : decided To Lead s = 0 ∨ decided To Lead s = 1 ∨ decided To Lead s = 2 := by
  unfold decided
  split
  · exact code_le _
  · exact Or.inl rfl
section
variable (To Lead wins : Int) (L : List ByteArray) (hL : L.length ≤ 1048576) (hz : ∀ x ∈ L, x.size ≤ 1048576)
include hL hz
theorem matchSpec_l0 (d : Nat) : ∀ (i : Nat) (a b : Int), i + d = L.length → 0 ≤ a ∧ a ≤ i → 0 ≤ b ∧ b ≤ i →
    Ev (fun k => spec_MatchOf.l0 k wins a b L (L.length : Int) (i : Int) To Lead) (matchGo To Lead wins (L.drop i) a b) := by
  induction d with
  | zero =>
    intro i a b hi _ _
    rw [List.drop_of_length_le (by omega)]
    refine ev_some fun k => ?_
    simp only [spec_MatchOf.l0, matchGo]
    rw [if_neg (by omega)]
    repeat' split
    all_goals rfl
  | succ d ih =>
    intro i a b hi h0 h1
    have hlt : i < L.length := by omega
    have hwi : wrap64 ((i : Int) + 1) = ((i + 1 : Nat) : Int) := by rw [wrap_id (by omega) (by omega)]; omega
    have hwa : wrap64 (a + 1) = a + 1 := wrap_id (by omega) (by omega)
    have hwb : wrap64 (b + 1) = b + 1 := wrap_id (by omega) (by omega)
    have hr := rdS L i hlt
    have hs := hz L[i] (List.getElem_mem hlt)
    rw [List.drop_eq_getElem_cons hlt]
    generalize L[i] = p at hr hs ⊢
    have bad : ∀ k, spec_MatchOf.j2 (k + 1) wins a b p L (L.length : Int) (i : Int) true To Lead = some (⟨#[]⟩, false) := fun k => by simp [spec_MatchOf.j2]
    simp only [matchGo]
    by_cases hab : a = wins ∨ b = wins
    · rw [if_pos hab]
      refine Ev.step (f := fun k => spec_MatchOf.j2 k wins a b p L (L.length : Int) (i : Int) true To Lead) (fun k => ?_) (ev_some bad)
      simp only [spec_MatchOf.l0]
      rw [if_pos (by omega), if_pos (by omega), if_pos (by omega), hr]
      rcases hab with h | h
      · rw [if_pos h]
      · by_cases h2 : a = wins
        · rw [if_pos h2]
        · rw [if_neg h2, if_pos h]
    · rw [if_neg hab]
      have na : ¬ a = wins := fun h => hab (Or.inl h)
      have nb : ¬ b = wins := fun h => hab (Or.inr h)
      refine Ev.step (f := fun k => (spec_raIs.f k To Lead p).bind fun t130 => (spec_MatchOf.j2 k wins a b p L (L.length : Int) (i : Int) (!t130) To Lead)) (fun k => ?_) ?_
      · simp only [spec_MatchOf.l0]
        rw [if_pos (by omega), if_pos (by omega), if_pos (by omega), hr, if_neg na, if_neg nb]
      · refine Ev.bind (raIs_ev To Lead p hs) ?_
        have hsd := raSide_ev To Lead p hs
        cases hi : isB To Lead p
        · have hd : decided To Lead p = 0 := by unfold decided; rw [hi]; rfl
          rw [hd, if_neg (by decide), if_neg (by decide)]
          exact ev_some bad
        · have hd : decided To Lead p = code (Rw To Lead (cntS To Lead p).1 (cntS To Lead p).2.1) := by unfold decided; rw [hi]; rfl
          rw [← hd] at hsd
          refine Ev.step (f := fun k => (spec_raSide.f k To Lead p).bind fun t131 => (if t131.toList = ([97] : List UInt8) then (spec_MatchOf.l0 k wins (wrap64 (a + 1)) b L (L.length : Int) (wrap64 ((i : Int) + 1)) To Lead) else (if t131.toList = ([98] : List UInt8) then (spec_MatchOf.l0 k wins a (wrap64 (b + 1)) L (L.length : Int) (wrap64 ((i : Int) + 1)) To Lead) else (some ((⟨#[]⟩ : ByteArray), false))))) (fun k => by simp [spec_MatchOf.j2]) ?_
          refine Ev.bind hsd ?_
          rw [hwi, hwa, hwb]
          rcases decided_le To Lead p with h | h | h
          · rw [h, text0, if_neg (by decide), if_neg (by decide)]
            exact ev_const fun k => by rw [if_neg (by decide), if_neg (by decide)]
          · rw [h, text1, if_pos rfl]
            simp only [if_true]
            exact ih (i + 1) (a + 1) b (by omega) (by omega) (by omega)
          · rw [h, text2, if_neg (by decide), if_pos rfl]
            simp only [if_true, show ¬ (([98] : List UInt8) = [97]) by decide, if_false]
            exact ih (i + 1) a (b + 1) (by omega) (by omega) (by omega)
theorem matchImpl_l0 (h9 : L.length ≤ 9) (d : Nat) : ∀ (i : Nat) (ws : List ByteArray), i + d = L.length → ws.length = i → (ws.all fun x => decide (x.size ≤ 1000)) = true →
    Ev (fun k => impl_MatchOf.l0 k wins ws L (L.length : Int) (i : Int) To Lead) (if (L.drop i).all (fun p => decide (decided To Lead p ≠ 0)) = true then ftGo wins (ws ++ (L.drop i).map fun p => wonText (decided To Lead p)) [] ⟨#[45]⟩ else (⟨#[]⟩, false)) := by
  induction d with
  | zero =>
    intro i ws hi hw hws
    rw [List.drop_of_length_le (by omega)]
    refine ev_some fun k => ?_
    simp only [impl_MatchOf.l0]
    rw [if_neg (by omega)]
    unfold impl_firstTo.f
    rw [if_pos ⟨by omega, hws⟩]
    simp
  | succ d ih =>
    intro i ws hi hw hws
    have hlt : i < L.length := by omega
    have hwi : wrap64 ((i : Int) + 1) = ((i + 1 : Nat) : Int) := by rw [wrap_id (by omega) (by omega)]; omega
    have hr := rdS L i hlt
    rw [List.drop_eq_getElem_cons hlt, List.all_cons, List.map_cons]
    generalize L[i] = p at hr ⊢
    have hwin : impl_WinnerOf.f To Lead p = some (if isB To Lead p = true then (wonText (decided To Lead p), true) else (⟨#[]⟩, false)) := winner_eq To Lead p
    have step : ∀ k, impl_MatchOf.l0 (k + 1) wins ws L (L.length : Int) (i : Int) To Lead = (if isB To Lead p = true then (if (wonText (decided To Lead p)).toList = ([45] : List UInt8) then (some ((⟨#[]⟩ : ByteArray), false)) else (impl_MatchOf.l0 k wins (ws ++ [wonText (decided To Lead p)]) L (L.length : Int) ((i + 1 : Nat) : Int) To Lead)) else some (⟨#[]⟩, false)) := by
      intro k
      simp only [impl_MatchOf.l0]
      rw [if_pos (by omega), if_pos (by omega), if_pos (by omega), hr, hwin, hwi]
      cases isB To Lead p
      · rfl
      · simp only [Option.bind_some, if_true]
        rw [if_pos (show ws.length < 8796093022208 by omega)]
    cases hb : isB To Lead p
    · have hd : decided To Lead p = 0 := by unfold decided; rw [hb]; rfl
      rw [hd]
      simp only [ne_eq, not_true_eq_false, decide_false, Bool.false_and, Bool.false_eq_true, if_false]
      refine ev_some fun k => ?_
      rw [step k, hb]
      rfl
    · rcases decided_le To Lead p with h | h | h
      · rw [h]
        simp only [ne_eq, not_true_eq_false, decide_false, Bool.false_and, Bool.false_eq_true, if_false]
        refine ev_some fun k => ?_
        rw [step k, hb, h, if_pos rfl, if_pos text0]
      · have hn := ih (i + 1) (ws ++ [wonText 1]) (by omega) (by simp [hw]) (by rw [List.all_append, hws]; rfl)
        rw [List.append_assoc] at hn
        rw [h]
        simp only [ne_eq, Nat.one_ne_zero, not_false_eq_true, decide_true, Bool.true_and]
        refine Ev.step (fun k => ?_) hn
        rw [step k, hb, h, if_pos rfl, text1, if_neg (by decide)]
      · have hn := ih (i + 1) (ws ++ [wonText 2]) (by omega) (by simp [hw]) (by rw [List.all_append, hws]; rfl)
        rw [List.append_assoc] at hn
        rw [h]
        have h20 : ¬ (2 = 0) := by decide
        simp only [ne_eq, h20, not_false_eq_true, decide_true, Bool.true_and]
        refine Ev.step (fun k => ?_) hn
        rw [step k, hb, h, if_pos rfl, text2, if_neg (by decide)]
end
theorem matchGo_und (To Lead wins : Int) (l : List ByteArray) : ∀ a b : Int, l.all (fun p => decide (decided To Lead p ≠ 0)) = false → matchGo To Lead wins l a b = (⟨#[]⟩, false) := by
  induction l with
  | nil => intro a b h; simp at h
  | cons p l ih =>
    intro a b h
    rw [List.all_cons] at h
    simp only [matchGo]
    by_cases hab : a = wins ∨ b = wins
    · rw [if_pos hab]
    · rw [if_neg hab]
      rcases decided_le To Lead p with hd | hd | hd
      · rw [hd, if_neg (by decide), if_neg (by decide)]
      · rw [hd] at h
        rw [hd, if_pos rfl]
        exact ih (a + 1) b (by simpa using h)
      · rw [hd] at h
        rw [hd, if_neg (by decide), if_pos rfl]
        exact ih a (b + 1) (by simpa using h)
def wonNow (wins a b : Int) : ByteArray := if wins = a then (⟨#[97]⟩ : ByteArray) else if wins = b then (⟨#[98]⟩ : ByteArray) else (⟨#[45]⟩ : ByteArray)
theorem wonNow_list (wins a b : Int) : (wonNow wins a b).toList = [45] ↔ ¬ (a = wins ∨ b = wins) := by
  unfold wonNow
  by_cases h1 : wins = a
  · rw [if_pos h1, Lib.toList_data]
    simp [h1]
  · rw [if_neg h1]
    by_cases h2 : wins = b
    · rw [if_pos h2, Lib.toList_data]
      simp [h2]
    · rw [if_neg h2, Lib.toList_data]
      simp
      omega
theorem ft_match (To Lead wins : Int) (l : List ByteArray) : ∀ (done : List (List UInt8)) (a b : Int), l.all (fun p => decide (decided To Lead p ≠ 0)) = true → a = (done.count [97] : Int) → b = (done.count [98] : Int) →
    ftGo wins (l.map fun p => wonText (decided To Lead p)) done (wonNow wins a b) = matchGo To Lead wins l a b := by
  induction l with
  | nil =>
    intro done a b _ _ _
    rfl
  | cons p l ih =>
    intro done a b h ha hb
    rw [List.all_cons, Bool.and_eq_true] at h
    simp only [List.map_cons, ftGo, matchGo]
    by_cases hab : a = wins ∨ b = wins
    · rw [if_neg (fun h' => (wonNow_list wins a b).1 h' hab), if_pos hab]
    · rw [if_pos ((wonNow_list wins a b).2 hab), if_neg hab]
      have na : ¬ wins = a := fun h' => hab (Or.inl h'.symm)
      have nb : ¬ wins = b := fun h' => hab (Or.inr h'.symm)
      rcases decided_le To Lead p with hd | hd | hd
      · rw [hd] at h
        exact absurd h.1 (by decide)
      · rw [hd, if_pos rfl]
        have e : (wonText 1).data.toList = [97] := rfl
        rw [e]
        have c1 : ((done ++ [[97]]).count [97] : Int) = a + 1 := by rw [List.count_append, ha]; simp
        have c2 : ((done ++ [[97]]).count [98] : Int) = b := by rw [List.count_append, hb]; simp
        rw [← ih (done ++ [[97]]) (a + 1) b h.2 c1.symm c2.symm, c1]
        congr 1
        unfold wonNow
        by_cases h3 : a + 1 = wins
        · rw [if_pos h3, if_pos h3.symm]
          rfl
        · rw [if_neg h3, if_neg na, if_neg nb, if_neg (show ¬ wins = a + 1 from fun h' => h3 h'.symm)]
      · rw [hd, if_neg (show ¬ (2 : Nat) = 1 by decide), if_pos (show (2 : Nat) = 2 from rfl)]
        have e : (wonText 2).data.toList = [98] := rfl
        rw [e]
        have c1 : ((done ++ [[98]]).count [97] : Int) = a := by rw [List.count_append, ha]; simp
        have c2 : ((done ++ [[98]]).count [98] : Int) = b + 1 := by rw [List.count_append, hb]; simp
        rw [← ih (done ++ [[98]]) a (b + 1) h.2 c1.symm c2.symm, c2]
        congr 1
        unfold wonNow
        by_cases h3 : b + 1 = wins
        · rw [if_pos h3, if_neg na, if_pos h3.symm]
          rfl
        · rw [if_neg h3, if_neg na, if_neg nb, if_neg (show ¬ wins = b + 1 from fun h' => h3 h'.symm), if_neg na]
theorem match_both (To Lead : Int) (l : List ByteArray) (wins : Int) (hl2 : l.length ≤ 1048576) (hz2 : ∀ x ∈ l, x.size ≤ 1048576) : ∃ v : ByteArray × Bool, Ev (fun k => spec_MatchOf.f k To Lead l wins) v ∧ Ev (fun k => impl_MatchOf.f k To Lead l wins) v ∧ (v.2 = true → l.length ≤ 9 ∧ (1 ≤ wins ∧ wins ≤ 5) ∧ v = matchGo To Lead wins l 0 0) := by
  unfold spec_MatchOf.f impl_MatchOf.f
  rw [raGood_eq, isRace_eq]
  simp only [Option.bind_some]
  have no1 : Ev (fun k => spec_MatchOf.j0 k l wins true To Lead) (⟨#[]⟩, false) := ev_some fun k => by simp [spec_MatchOf.j0]
  have no2 : Ev (fun k => impl_MatchOf.j0 k l wins true To Lead) (⟨#[]⟩, false) := ev_some fun k => by simp [impl_MatchOf.j0]
  cases hg : goodR To Lead
  · exact ⟨_, no1, no2, fun h => absurd h Bool.false_ne_true⟩
  · simp only [if_true]
    by_cases h9 : (l.length : Int) > 9
    · simp only [if_pos h9]
      exact ⟨_, no1, no2, fun h => absurd h Bool.false_ne_true⟩
    · simp only [if_neg h9, l1In_eq, within_eq, Option.bind_some]
      cases hw : decide (1 ≤ wins ∧ wins ≤ 5)
      · simp only [Bool.not_false]
        exact ⟨_, no1, no2, fun h => absurd h Bool.false_ne_true⟩
      · have hw2 := of_decide_eq_true hw
        simp only [Bool.not_true]
        have hs := matchSpec_l0 To Lead wins l hl2 hz2 l.length 0 0 0 (by omega) (by omega) (by omega)
        have hi := matchImpl_l0 To Lead wins l hl2 hz2 (by omega) l.length 0 [] (by omega) rfl rfl
        simp only [List.drop_zero, List.nil_append] at hs hi
        have e0 : wonNow wins 0 0 = ⟨#[45]⟩ := by unfold wonNow; rw [if_neg (by omega), if_neg (by omega)]
        refine ⟨matchGo To Lead wins l 0 0, Ev.step (f := fun k => spec_MatchOf.l0 k wins 0 0 l (l.length : Int) 0 To Lead) (fun k => by simp [spec_MatchOf.j0]) (by simpa using hs), Ev.step (f := fun k => impl_MatchOf.l0 k wins (([] : List ByteArray)) l (l.length : Int) 0 To Lead) (fun k => by simp [impl_MatchOf.j0]) ?_, fun _ => ⟨by omega, hw2, rfl⟩⟩
        cases ha : l.all (fun p => decide (decided To Lead p ≠ 0))
        · rw [matchGo_und To Lead wins l 0 0 ha]
          rw [ha] at hi
          simpa using hi
        · rw [← ft_match To Lead wins l [] 0 0 ha (by simp) (by simp), e0]
          rw [ha] at hi
          simpa using hi
end Go.Proofs.YtiknaldhjbdnbaaGreatDoor.Pure
