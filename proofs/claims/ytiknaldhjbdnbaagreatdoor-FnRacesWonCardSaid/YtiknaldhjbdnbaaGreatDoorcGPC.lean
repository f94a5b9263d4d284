/- What holds between the answers about one play: the tests of laws.FnRacesWon on its first draw. No condition but sizes. -/
import Derived.Test.YtiknaldhjbdnbaaGreatDoorcGPB
import Derived.Test.YtiknaldhjbdnbaaGreatDoorcGB255
namespace Go.Proofs.YtiknaldhjbdnbaaGreatDoor.Pure
open Go.RowKit Go.Proofs.YtiknaldhjbdnbaaGreatDoor.QFnRacesWon Go.Proofs.YtiknaldhjbdnbaaGreatDoorW.PrintWords Go.Proofs.YtiknaldhjbdnbaaGreatDoorW.PrintLast Go.Proofs.YtiknaldhjbdnbaaGreatDoorW.PrintMore
set_option linter.unusedVariables false
set_option linter.unusedSimpArgs false
set_option linter.unusedSectionVars false
theorem cnt_snoc (To Lead : Int) (c : UInt8) (l : List UInt8) : ∀ a b : Int, cnt To Lead (l ++ [c]) a b = if (cnt To Lead l a b).2.2 = true then (if Rw To Lead (cnt To Lead l a b).1 (cnt To Lead l a b).2.1 = 0 then (if c = 97 then ((cnt To Lead l a b).1 + 1, (cnt To Lead l a b).2.1, true) else ((cnt To Lead l a b).1, (cnt To Lead l a b).2.1 + 1, true)) else ((cnt To Lead l a b).1, (cnt To Lead l a b).2.1, false)) else cnt To Lead l a b := by
  induction l with
  | nil =>
    intro a b
    simp only [List.nil_append, cnt, if_true]
    rfl
  | cons d l ih =>
    intro a b
    simp only [List.cons_append, cnt]
    split
    · split
      · exact ih _ _
      · exact ih _ _
    · simp
theorem snoc_data (s : ByteArray) (c : UInt8) : (s ++ (⟨#[c]⟩ : ByteArray)).data.toList = s.data.toList ++ [c] := by
  simp [ByteArray.data_append]
theorem snoc_size (s : ByteArray) (c : UInt8) : (s ++ (⟨#[c]⟩ : ByteArray)).size = s.size + 1 := by
  rw [ByteArray.size_append]
  rfl
theorem cntS_snoc (To Lead : Int) (s : ByteArray) (c : UInt8) : cntS To Lead (s ++ (⟨#[c]⟩ : ByteArray)) = if (cntS To Lead s).2.2 = true then (if Rw To Lead (cntS To Lead s).1 (cntS To Lead s).2.1 = 0 then (if c = 97 then ((cntS To Lead s).1 + 1, (cntS To Lead s).2.1, true) else ((cntS To Lead s).1, (cntS To Lead s).2.1 + 1, true)) else ((cntS To Lead s).1, (cntS To Lead s).2.1, false)) else cntS To Lead s := by
  unfold cntS
  rw [snoc_data]
  exact cnt_snoc To Lead c _ 0 0
theorem pointsB_all {s : ByteArray} (h : pointsB s = true) : s.data.toList.all abB = true := by
  unfold pointsB at h
  rw [Bool.and_eq_true] at h
  exact h.2
theorem pointsB_size {s : ByteArray} (h : pointsB s = true) : s.size ≤ 100 := (points_ascii h).1
theorem pointsB_snoc {s : ByteArray} {c : UInt8} (h : pointsB s = true) (hz : s.size < 100) (hc : abB c = true) : pointsB (s ++ (⟨#[c]⟩ : ByteArray)) = true := by
  have ha := pointsB_all h
  unfold pointsB
  rw [snoc_data, snoc_size, List.all_append, ha]
  simp [hc]
  omega
theorem isB_of {To Lead : Int} {s : ByteArray} (h1 : goodR To Lead = true) (h2 : pointsB s = true) (h3 : (cntS To Lead s).2.2 = true) : isB To Lead s = true := by
  unfold isB
  rw [h1, h2, h3]
  rfl
theorem isB_snoc {To Lead : Int} {s : ByteArray} {c : UInt8} (hi : isB To Lead s = true) (hz : s.size < 100) (h0 : Rw To Lead (cntS To Lead s).1 (cntS To Lead s).2.1 = 0) (hc : abB c = true) :
    isB To Lead (s ++ (⟨#[c]⟩ : ByteArray)) = true ∧ cntS To Lead (s ++ (⟨#[c]⟩ : ByteArray)) = (if c = 97 then ((cntS To Lead s).1 + 1, (cntS To Lead s).2.1, true) else ((cntS To Lead s).1, (cntS To Lead s).2.1 + 1, true)) := by
  obtain ⟨h1, h2, h3⟩ := isB_parts hi
  have e := cntS_snoc To Lead s c
  rw [if_pos h3, if_pos h0] at e
  refine ⟨isB_of h1 (pointsB_snoc h2 hz hc) ?_, e⟩
  rw [e]
  split <;> rfl
def neC (c : UInt8) : List UInt8 → Int
  | [] => 0
  | e :: l => (if e = c then 0 else 1) + neC c l
theorem neC_nn (c : UInt8) (l : List UInt8) : 0 ≤ neC c l := by
  induction l with
  | nil => exact Int.le_refl 0
  | cons e l ih => simp only [neC]; split <;> omega
theorem abB_or {c : UInt8} (h : abB c = true) : c = 97 ∨ c = 98 := by
  unfold abB at h
  simpa using h
theorem neC_sum (l : List UInt8) (h : l.all abB = true) : neC 97 l + neC 98 l = (l.length : Int) := by
  induction l with
  | nil => rfl
  | cons e l ih =>
    rw [List.all_cons, Bool.and_eq_true] at h
    have := ih h.2
    simp only [neC, List.length_cons]
    rcases abB_or h.1 with rfl | rfl
    · rw [if_pos rfl, if_neg (by decide)]
      omega
    · rw [if_neg (by decide), if_pos rfl]
      omega
theorem cnt_tot (To Lead : Int) (l : List UInt8) (h : l.all abB = true) : ∀ a b : Int, (cnt To Lead l a b).2.2 = true → (cnt To Lead l a b).1 = a + neC 98 l ∧ (cnt To Lead l a b).2.1 = b + neC 97 l := by
  induction l with
  | nil => intro a b _; simp [cnt, neC]
  | cons e l ih =>
    intro a b hp
    rw [List.all_cons, Bool.and_eq_true] at h
    simp only [cnt] at hp ⊢
    by_cases h0 : Rw To Lead a b = 0
    · rw [if_pos h0] at hp ⊢
      rcases abB_or h.1 with rfl | rfl
      · rw [if_pos rfl] at hp ⊢
        have := ih h.2 (a + 1) b hp
        simp only [neC, if_true]
        rw [if_neg (by decide)]
        omega
      · rw [if_neg (by decide)] at hp ⊢
        have := ih h.2 a (b + 1) hp
        simp only [neC, if_true]
        rw [if_neg (by decide)]
        omega
    · rw [if_neg h0] at hp
      exact absurd hp Bool.false_ne_true
theorem mx_le {a b c : Int} (h1 : a ≤ c) (h2 : b ≤ c) : mx a b ≤ c := by
  unfold mx
  split <;> assumption
theorem le_mx (a b : Int) : a ≤ mx a b ∧ b ≤ mx a b := by
  unfold mx
  split <;> omega
theorem cbk_bd (c : UInt8) (l : List UInt8) : ∀ worst lead m : Int, worst ≤ m → -lead + neC c l ≤ m → worst ≤ cbk c l worst lead ∧ cbk c l worst lead ≤ m := by
  induction l with
  | nil => intro worst lead m h1 h2; exact ⟨Int.le_refl _, h1⟩
  | cons e l ih =>
    intro worst lead m h1 h2
    have hn := neC_nn c l
    simp only [cbk, neC] at h2 ⊢
    by_cases he : e = c
    · rw [if_pos he] at h2 ⊢
      have := ih (mx worst (-(lead + 1))) (lead + 1) m (mx_le h1 (by omega)) (by omega)
      have h3 := le_mx worst (-(lead + 1))
      omega
    · rw [if_neg he] at h2 ⊢
      have := ih (mx worst (-(lead - 1))) (lead - 1) m (mx_le h1 (by omega)) (by omega)
      have h3 := le_mx worst (-(lead - 1))
      omega
theorem sums {To Lead : Int} {s : ByteArray} (hi : isB To Lead s = true) : (cntS To Lead s).1 = neC 98 s.data.toList ∧ (cntS To Lead s).2.1 = neC 97 s.data.toList ∧ 0 ≤ (cntS To Lead s).1 ∧ 0 ≤ (cntS To Lead s).2.1 ∧ (cntS To Lead s).1 + (cntS To Lead s).2.1 = (s.size : Int) ∧ s.size ≤ 100 := by
  obtain ⟨h1, h2, h3⟩ := isB_parts hi
  have hall := pointsB_all h2
  have ht := cnt_tot To Lead s.data.toList hall 0 0 h3
  have hs := neC_sum s.data.toList hall
  rw [len_data] at hs
  have n1 := neC_nn 97 s.data.toList
  have n2 := neC_nn 98 s.data.toList
  have hz := pointsB_size h2
  unfold cntS
  omega
theorem Rw_1 {To Lead a b : Int} (h : Rw To Lead a b = 1) : To ≤ a ∧ Lead ≤ a - b := by
  unfold Rw at h
  split at h
  · assumption
  · split at h
    · exact absurd h (by decide)
    · exact absurd h (by decide)
theorem Rw_m {To Lead a b : Int} (h : Rw To Lead a b = -1) : To ≤ b ∧ Lead ≤ b - a := by
  unfold Rw at h
  split at h
  · exact absurd h (by decide)
  · split at h
    · assumption
    · exact absurd h (by decide)
theorem Rw_0 {To Lead a b : Int} (h : Rw To Lead a b = 0) : ¬ (To ≤ a ∧ Lead ≤ a - b) ∧ ¬ (To ≤ b ∧ Lead ≤ b - a) := by
  unfold Rw at h
  split at h
  · exact absurd h (by decide)
  · rename_i h1
    split at h
    · exact absurd h (by decide)
    · rename_i h2
      exact ⟨h1, h2⟩
theorem Rw_of1 {To Lead a b : Int} (h : To ≤ a ∧ Lead ≤ a - b) : Rw To Lead a b = 1 := by
  unfold Rw
  rw [if_pos h]
theorem Rw_ofm {To Lead a b : Int} (hL : 1 ≤ Lead) (h : To ≤ b ∧ Lead ≤ b - a) : Rw To Lead a b = -1 := by
  unfold Rw
  rw [if_neg (by omega), if_pos h]
theorem Rw_of0 {To Lead a b : Int} (h1 : ¬ (To ≤ a ∧ Lead ≤ a - b)) (h2 : ¬ (To ≤ b ∧ Lead ≤ b - a)) : Rw To Lead a b = 0 := by
  unfold Rw
  rw [if_neg h1, if_neg h2]
theorem decided_is {To Lead : Int} {s : ByteArray} (hi : isB To Lead s = true) : decided To Lead s = code (Rw To Lead (cntS To Lead s).1 (cntS To Lead s).2.1) := by
  unfold decided
  rw [if_pos hi]
theorem winV_is {To Lead : Int} {s : ByteArray} (hi : isB To Lead s = true) : winV To Lead s = (wonText (code (Rw To Lead (cntS To Lead s).1 (cntS To Lead s).2.1)), true) := by
  unfold winV
  rw [if_pos hi, decided_is hi]
theorem text1 : (wonText 1).toList = [97] := by rw [Lib.toList_data]; rfl
theorem text2 : (wonText 2).toList = [98] := by rw [Lib.toList_data]; rfl
theorem text0 : (wonText 0).toList = [45] := by rw [Lib.toList_data]; rfl
theorem few_side {To Lead : Int} {s : ByteArray} (hi : isB To Lead s = true) (c : UInt8) (own other : Int) (h : (c = 97 ∧ own = (cntS To Lead s).1 ∧ other = (cntS To Lead s).2.1) ∨ (c = 98 ∧ own = (cntS To Lead s).2.1 ∧ other = (cntS To Lead s).1)) : ∃ k, impl_FewestToWin.f k To Lead s ⟨#[c]⟩ = some (fewV To Lead own other) := by
  obtain ⟨v, _, hv, _, h97, h98, _⟩ := few_both To Lead s ⟨#[c]⟩ (by have := (sums hi).2.2.2.2.2; omega)
  obtain ⟨n, hn⟩ := hv
  refine ⟨n, (hn n (Nat.le_refl n)).trans ?_⟩
  rcases h with ⟨rfl, rfl, rfl⟩ | ⟨rfl, rfl, rfl⟩
  · rw [h97 hi (by rw [Lib.toList_data])]
  · rw [h98 hi (by rw [Lib.toList_data])]
theorem fewV_open {To Lead own other : Int} (h1 : ¬ (To ≤ own ∧ Lead ≤ own - other)) (h2 : ¬ (To ≤ other ∧ Lead ≤ other - own)) : fewV To Lead own other = (mx To (other + Lead) - own, true) ∧ 1 ≤ mx To (other + Lead) - own := by
  have hw : wonB To Lead other own = false := by
    unfold wonB
    cases e1 : decide (To ≤ other)
    · rfl
    · have := of_decide_eq_true e1
      exact decide_eq_false (fun h => h2 ⟨this, h⟩)
  have hm : 1 ≤ mx To (other + Lead) - own := by
    unfold mx
    split <;> omega
  refine ⟨?_, hm⟩
  unfold fewV
  rw [hw]
  simp only [Bool.false_eq_true, if_false]
  congr 1
  generalize mx To (other + Lead) - own = z at hm ⊢
  unfold mx
  split <;> omega
theorem side_of {To Lead : Int} {s : ByteArray} (hi : isB To Lead s = true) (hz : s.size < 100) (h0 : Rw To Lead (cntS To Lead s).1 (cntS To Lead s).2.1 = 0) : Side To Lead s (nxV To Lead (cntS To Lead s).1 (cntS To Lead s).2.1) := by
  obtain ⟨hg, _, _⟩ := isB_parts hi
  have hT := goodR_to hg
  obtain ⟨n1, n2⟩ := Rw_0 h0
  obtain ⟨a1, a2⟩ := isB_snoc (c := 97) hi hz h0 rfl
  obtain ⟨b1, b2⟩ := isB_snoc (c := 98) hi hz h0 rfl
  rw [if_pos rfl] at a2
  rw [if_neg (by decide)] at b2
  obtain ⟨kf0, hf0⟩ := few_side hi 97 _ _ (.inl ⟨rfl, rfl, rfl⟩)
  obtain ⟨kf1, hf1⟩ := few_side hi 98 _ _ (.inr ⟨rfl, rfl, rfl⟩)
  have e0 := winner_eq To Lead (s ++ ⟨#[97]⟩)
  have e1 := winner_eq To Lead (s ++ ⟨#[98]⟩)
  rw [winV_is a1, a2] at e0
  rw [winV_is b1, b2] at e1
  obtain ⟨f0, g0⟩ := fewV_open n1 n2
  obtain ⟨f1, g1⟩ := fewV_open n2 n1
  rw [f0] at hf0
  rw [f1] at hf1
  simp only at e0 e1
  generalize (cntS To Lead s).1 = a at *
  generalize (cntS To Lead s).2.1 = b at *
  have hx0 : mx To (b + Lead) - a = 1 ↔ Rw To Lead (a + 1) b = 1 := by
    constructor
    · intro h
      refine Rw_of1 ?_
      unfold mx at h
      split at h <;> omega
    · intro h
      have := Rw_1 h
      unfold mx at g0 ⊢
      split <;> split at g0 <;> omega
  have hx1 : mx To (a + Lead) - b = 1 ↔ Rw To Lead a (b + 1) = -1 := by
    constructor
    · intro h
      refine Rw_ofm hT.2.1 ?_
      unfold mx at h
      split at h <;> omega
    · intro h
      have := Rw_m h
      unfold mx at g1 ⊢
      split <;> split at g1 <;> omega
  have hne0 : Rw To Lead (a + 1) b ≠ -1 := by
    intro h
    have := Rw_m h
    omega
  have hne1 : Rw To Lead a (b + 1) ≠ 1 := by
    intro h
    have := Rw_1 h
    omega
  refine ⟨_, _, _, _, decide (Rw To Lead (a + 1) b = 1), decide (Rw To Lead a (b + 1) = -1), kf0, kf1, ?_, ?_, e0, hf0, ?_, ?_, g0, ?_, e1, hf1, ?_, ?_, g1, ?_⟩
  · unfold nxV
    rw [if_pos h0]
    repeat' split
    all_goals rfl
  · unfold nxV
    rw [if_pos h0]
    repeat' split
    all_goals decide
  · unfold nxV
    rw [if_pos h0]
    by_cases p : Rw To Lead (a + 1) b = 1 <;> by_cases q : Rw To Lead a (b + 1) = -1 <;> simp only [p, q, if_true, if_false, decide_true, decide_false] <;> rfl
  · rcases Rw_three To Lead (a + 1) b with h | h | h
    · rw [h, show code 1 = 1 from rfl, text1]
      rfl
    · exact absurd h hne0
    · rw [h, show code 0 = 0 from rfl, text0]
      rfl
  · by_cases h : mx To (b + Lead) - a = 1
    · rw [h, decide_eq_true (hx0.1 h)]
      rfl
    · rw [decide_eq_false (fun h' => h (hx0.2 h'))]
      exact beq_eq_false_iff_ne.2 h
  · unfold nxV
    rw [if_pos h0]
    by_cases p : Rw To Lead (a + 1) b = 1 <;> by_cases q : Rw To Lead a (b + 1) = -1 <;> simp only [p, q, if_true, if_false, decide_true, decide_false] <;> rfl
  · rcases Rw_three To Lead a (b + 1) with h | h | h
    · exact absurd h hne1
    · rw [h, show code (-1) = 2 from rfl, text2]
      rfl
    · rw [h, show code 0 = 0 from rfl, text0]
      rfl
  · by_cases h : mx To (a + Lead) - b = 1
    · rw [h, decide_eq_true (hx1.1 h)]
      rfl
    · rw [decide_eq_false (fun h' => h (hx1.2 h'))]
      exact beq_eq_false_iff_ne.2 h
theorem prev_of {To Lead : Int} {s : ByteArray} (hi : isB To Lead s = true) (hz : 1 ≤ s.size) : ∃ Wp, impl_WinnerOf.f To Lead (s.extract 0 (s.size - 1)) = some (Wp, true) ∧ (Wp.toList == ([45] : List UInt8)) = true := by
  obtain ⟨h1, h2, h3⟩ := isB_parts hi
  have hl : s.data.toList.length = s.size := len_data s
  have hne : s.data.toList ≠ [] := by
    intro h
    rw [h] at hl
    simp at hl
    omega
  obtain ⟨c, hc⟩ : ∃ c, (s.extract 0 (s.size - 1)) ++ (⟨#[c]⟩ : ByteArray) = s := by
    refine ⟨s.data.toList.getLast hne, ?_⟩
    apply ByteArray.ext
    apply Array.toList_inj.1
    rw [snoc_data, ByteArray.data_extract, Array.toList_extract]
    have e : s.data.toList.extract 0 (s.size - 1) = s.data.toList.dropLast := by
      rw [List.extract_eq_take_drop, List.drop_zero, List.dropLast_eq_take, hl, Nat.sub_zero]
    rw [e, List.dropLast_concat_getLast]
  generalize s.extract 0 (s.size - 1) = p at hc ⊢
  have hall := pointsB_all h2
  have hsz := pointsB_size h2
  subst hc
  rw [snoc_data, List.all_append, Bool.and_eq_true] at hall
  rw [snoc_size] at hsz
  have hp : pointsB p = true := by
    unfold pointsB
    rw [hall.1]
    simp
    omega
  rw [cntS_snoc] at h3
  have hq : (cntS To Lead p).2.2 = true := by
    by_cases h : (cntS To Lead p).2.2 = true
    · exact h
    · rw [if_neg h] at h3
      exact absurd h3 h
  rw [if_pos hq] at h3
  have h0 : Rw To Lead (cntS To Lead p).1 (cntS To Lead p).2.1 = 0 := by
    by_cases h : Rw To Lead (cntS To Lead p).1 (cntS To Lead p).2.1 = 0
    · exact h
    · rw [if_neg h] at h3
      exact absurd h3 Bool.false_ne_true
  refine ⟨wonText 0, ?_, by rw [text0]; rfl⟩
  rw [winner_eq, winV_is (isB_of h1 hp hq), h0]
  rfl
theorem bf_of {To Lead : Int} {s : ByteArray} (hi : isB To Lead s = true) : BF To Lead s (winV To Lead s).1 (nxV To Lead (cntS To Lead s).1 (cntS To Lead s).2.1) (bkV s (Rw To Lead (cntS To Lead s).1 (cntS To Lead s).2.1)).2 (cntS To Lead s).1 (cntS To Lead s).2.1 (bkV s (Rw To Lead (cntS To Lead s).1 (cntS To Lead s).2.1)).1 := by
  obtain ⟨hg, _, _⟩ := isB_parts hi
  have hT := goodR_to hg
  obtain ⟨s1, s2, s3, s4, s5, s6⟩ := sums hi
  have c97 := cbk_bd 97 s.data.toList 0 0 (neC 97 s.data.toList) (neC_nn _ _) (by omega)
  have c98 := cbk_bd 98 s.data.toList 0 0 (neC 98 s.data.toList) (neC_nn _ _) (by omega)
  have hb : (bkV s (Rw To Lead (cntS To Lead s).1 (cntS To Lead s).2.1)).2 = true → 0 ≤ (bkV s (Rw To Lead (cntS To Lead s).1 (cntS To Lead s).2.1)).1 ∧ (bkV s (Rw To Lead (cntS To Lead s).1 (cntS To Lead s).2.1)).1 < (s.size : Int) := by
    rcases Rw_three To Lead (cntS To Lead s).1 (cntS To Lead s).2.1 with h | h | h
    · have := Rw_1 h
      rw [h]
      intro _
      show 0 ≤ cbk 97 s.data.toList 0 0 ∧ cbk 97 s.data.toList 0 0 < (s.size : Int)
      omega
    · have := Rw_m h
      rw [h]
      intro _
      show 0 ≤ cbk 98 s.data.toList 0 0 ∧ cbk 98 s.data.toList 0 0 < (s.size : Int)
      omega
    · rw [h]
      intro h'
      exact absurd h' Bool.false_ne_true
  refine ⟨s6, s3, s4, by omega, by omega, ?_, fun h => (hb h).1, fun h => (hb h).2, ?_, ?_, fun h => prev_of hi h⟩
  · rw [s5]
    exact bne_self_eq_false _
  · rw [winV_is hi]
    rcases Rw_three To Lead (cntS To Lead s).1 (cntS To Lead s).2.1 with h | h | h
    · have := Rw_1 h
      refine .inl ⟨by rw [h]; rfl, this.1, this.2, by omega, by rw [h]; rfl, by unfold nxV; rw [if_neg (by rw [h]; decide)]⟩
    · have := Rw_m h
      refine .inr (.inl ⟨by rw [h]; rfl, this.1, this.2, by omega, by rw [h]; rfl, by unfold nxV; rw [if_neg (by rw [h]; decide)]⟩)
    · have := Rw_0 h
      exact .inr (.inr ⟨by rw [h]; rfl, this.1, this.2, by rw [h]; rfl⟩)
  · intro hW hz
    refine side_of hi hz ?_
    rw [winV_is hi] at hW
    rcases Rw_three To Lead (cntS To Lead s).1 (cntS To Lead s).2.1 with h | h | h
    · rw [h] at hW
      exact absurd (congrArg (fun x => x.data.toList) hW) (by decide)
    · rw [h] at hW
      exact absurd (congrArg (fun x => x.data.toList) hW) (by decide)
    · exact h
theorem ev_ex {α : Type} {g : Nat → Option α} {r : α} (h : Ev g r) : ∃ k, g k = some r := by
  obtain ⟨n, hn⟩ := h
  exact ⟨n, hn n (Nat.le_refl n)⟩
end Go.Proofs.YtiknaldhjbdnbaaGreatDoor.Pure
