/- What holds between the answers at laws.FnRacesWon's second draws. No condition but sizes. -/
import Derived.Test.YtiknaldhjbdnbaaGreatDoorcGPD
namespace Go.Proofs.YtiknaldhjbdnbaaGreatDoor.Pure
open Go.RowKit Go.Proofs.YtiknaldhjbdnbaaGreatDoor.QFnRacesWon Go.Proofs.YtiknaldhjbdnbaaGreatDoorW.PrintWords Go.Proofs.YtiknaldhjbdnbaaGreatDoorW.PrintLast Go.Proofs.YtiknaldhjbdnbaaGreatDoorW.PrintMore
set_option linter.unusedVariables false
set_option linter.unusedSimpArgs false
set_option linter.unusedSectionVars false
theorem cnt_shift (f : Nat → Bool) (n : Nat) : cnt_ f (n + 1) = (if f 0 = true then 1 else 0) + cnt_ (fun j => f (j + 1)) n := by
  induction n with
  | zero => simp [cnt_]
  | succ n ih =>
    rw [show cnt_ f (n + 1 + 1) = cnt_ f (n + 1) + (if f (n + 1) = true then 1 else 0) from rfl, ih]
    simp only [cnt_]
    omega
theorem served_cnt (c : UInt8) (l : List UInt8) : ∀ (m : List UInt8) (f : Nat → Bool), l.length = m.length → (∀ i (h : i < l.length) (h2 : i < m.length), f i = (decide (m[i] = l[i]) && decide (l[i] = c))) → cnt_ f l.length = served c l m := by
  induction l with
  | nil => intro m f h _; cases m <;> rfl
  | cons x l ih =>
    intro m f h hf
    cases m with
    | nil => simp at h
    | cons y m =>
      simp only [List.length_cons, Nat.add_right_cancel_iff] at h
      rw [List.length_cons, cnt_shift, ih m (fun j => f (j + 1)) h (fun i h1 h2 => by
        have := hf (i + 1) (by rw [List.length_cons]; omega) (by rw [List.length_cons]; omega)
        simpa using this)]
      have h0 := hf 0 (by rw [List.length_cons]; omega) (by rw [List.length_cons]; omega)
      simp only [List.getElem_cons_zero] at h0
      rw [h0]
      simp only [served]
      by_cases e1 : x = y
      · subst e1
        by_cases e2 : x = c
        · subst e2
          simp
        · simp [e2]
      · simp [e1, Ne.symm e1]
def match1 (To Lead : Int) : List ByteArray → Int
  | [] => 0
  | p :: l => (if decided To Lead p = 1 then 1 else 0) + match1 To Lead l
def match2 (To Lead : Int) : List ByteArray → Int
  | [] => 0
  | p :: l => (if decided To Lead p = 1 then 0 else 1) + match2 To Lead l
theorem match_go (To Lead wins : Int) (l : List ByteArray) : ∀ (a b : Int) (M : ByteArray), matchGo To Lead wins l a b = (M, true) → a ≤ wins → b ≤ wins → ¬ (a = wins ∧ b = wins) →
    (∀ p ∈ l, decided To Lead p ≠ 0) ∧ a + match1 To Lead l ≤ wins ∧ b + match2 To Lead l ≤ wins ∧ ¬ (a + match1 To Lead l = wins ∧ b + match2 To Lead l = wins) ∧ M = wonNow wins (a + match1 To Lead l) (b + match2 To Lead l) := by
  induction l with
  | nil =>
    intro a b M h h1 h2 h3
    simp only [matchGo, Prod.mk.injEq, and_true] at h
    simp only [match1, match2, Int.add_zero]
    exact ⟨fun p hp => absurd hp (by simp), h1, h2, h3, h.symm⟩
  | cons p l ih =>
    intro a b M h h1 h2 h3
    simp only [matchGo] at h
    by_cases hab : a = wins ∨ b = wins
    · rw [if_pos hab] at h
      exact absurd (Prod.mk.inj h).2 (by decide)
    · rw [if_neg hab] at h
      have na : a ≠ wins := fun h' => hab (.inl h')
      have nb : b ≠ wins := fun h' => hab (.inr h')
      rcases decided_le To Lead p with hd | hd | hd
      · rw [hd, if_neg (by decide), if_neg (by decide)] at h
        exact absurd (Prod.mk.inj h).2 (by decide)
      · rw [hd, if_pos rfl] at h
        obtain ⟨g1, g2, g3, g4, g5⟩ := ih (a + 1) b M h (by omega) h2 (by omega)
        simp only [match1, match2, hd, if_true]
        rw [show a + (1 + match1 To Lead l) = a + 1 + match1 To Lead l by omega, show b + (0 + match2 To Lead l) = b + match2 To Lead l by omega]
        refine ⟨fun q hq => ?_, g2, g3, g4, g5⟩
        rcases List.mem_cons.1 hq with rfl | hq
        · rw [hd]
          decide
        · exact g1 q hq
      · rw [hd, if_neg (by decide), if_pos rfl] at h
        obtain ⟨g1, g2, g3, g4, g5⟩ := ih a (b + 1) M h h1 (by omega) (by omega)
        have hn : ¬ (2 : Nat) = 1 := by decide
        simp only [match1, match2, hd, hn, if_false]
        rw [show a + (0 + match1 To Lead l) = a + match1 To Lead l by omega, show b + (1 + match2 To Lead l) = b + 1 + match2 To Lead l by omega]
        refine ⟨fun q hq => ?_, g2, g3, g4, g5⟩
        rcases List.mem_cons.1 hq with rfl | hq
        · rw [hd]
          decide
        · exact g1 q hq
def avOf (To Lead : Int) (l : List ByteArray) (i : Nat) : Bool := decide (decided To Lead (l[i]?.getD ⟨#[]⟩) = 1)
theorem match_cnt (To Lead : Int) (l : List ByteArray) : cnt_ (avOf To Lead l) l.length = match1 To Lead l ∧ cnt_ (fun i => !avOf To Lead l i) l.length = match2 To Lead l := by
  induction l with
  | nil => exact ⟨rfl, rfl⟩
  | cons p l ih =>
    rw [List.length_cons, cnt_shift, cnt_shift]
    have e : (fun j => avOf To Lead (p :: l) (j + 1)) = avOf To Lead l := rfl
    have e2 : (fun j => (fun i => !avOf To Lead (p :: l) i) (j + 1)) = (fun i => !avOf To Lead l i) := rfl
    rw [e, e2, ih.1, ih.2]
    have e3 : avOf To Lead (p :: l) 0 = decide (decided To Lead p = 1) := rfl
    simp only [match1, match2, e3]
    by_cases h : decided To Lead p = 1
    · simp [h]
    · simp [h]
theorem wonNow_is (wins A B : Int) (h : ¬ (A = wins ∧ B = wins)) : ((wonNow wins A B).toList == ([97] : List UInt8)) = (A == wins) ∧ ((wonNow wins A B).toList == ([98] : List UInt8)) = (B == wins) := by
  have a1 : (([97] : List UInt8) == [97]) = true := rfl
  have a2 : (([97] : List UInt8) == [98]) = false := rfl
  have a3 : (([98] : List UInt8) == [97]) = false := rfl
  have a4 : (([98] : List UInt8) == [98]) = true := rfl
  have a5 : (([45] : List UInt8) == [97]) = false := rfl
  have a6 : (([45] : List UInt8) == [98]) = false := rfl
  unfold wonNow
  by_cases h1 : wins = A
  · rw [if_pos h1, Lib.toList_data, a1, a2, beq_iff_eq.2 h1.symm, beq_eq_false_iff_ne.2 (fun h2 => h ⟨h1.symm, h2⟩)]
    exact ⟨rfl, rfl⟩
  · rw [if_neg h1]
    by_cases h2 : wins = B
    · rw [if_pos h2, Lib.toList_data, a3, a4, beq_iff_eq.2 h2.symm, beq_eq_false_iff_ne.2 (fun h' => h1 h'.symm)]
      exact ⟨rfl, rfl⟩
    · rw [if_neg h2, Lib.toList_data, a5, a6, beq_eq_false_iff_ne.2 (fun h' => h2 h'.symm), beq_eq_false_iff_ne.2 (fun h' => h1 h'.symm)]
      exact ⟨rfl, rfl⟩
theorem mf_of {To Lead : Int} {l : List ByteArray} {wins : Int} {M : ByteArray} (h9 : l.length ≤ 9) (hw : 1 ≤ wins) (h : matchGo To Lead wins l 0 0 = (M, true)) : MF To Lead l M wins (avOf To Lead l) := by
  obtain ⟨g1, g2, g3, g4, g5⟩ := match_go To Lead wins l 0 0 M h (by omega) (by omega) (by omega)
  obtain ⟨c1, c2⟩ := match_cnt To Lead l
  rw [Int.zero_add] at g2 g3 g4 g5
  rw [Int.zero_add] at g4 g5
  have hn := wonNow_is wins (match1 To Lead l) (match2 To Lead l) g4
  refine ⟨h9, fun i hi => ?_, ?_, ?_, ?_, ?_, ?_⟩
  · have hd := g1 l[i] (List.getElem_mem hi)
    have hI : isB To Lead l[i] = true := by
      cases e : isB To Lead l[i]
      · exfalso
        apply hd
        unfold decided
        rw [e]
        rfl
      · rfl
    refine ⟨wonText (decided To Lead l[i]), ?_, ?_, ?_⟩
    · rw [winner_eq]
      unfold winV
      rw [if_pos hI]
    · rcases decided_le To Lead l[i] with e | e | e
      · exact absurd e hd
      · rw [e, text1]
        rfl
      · rw [e, text2]
        rfl
    · have e0 : avOf To Lead l i = decide (decided To Lead l[i] = 1) := by
        unfold avOf
        rw [List.getElem?_eq_getElem hi]
        rfl
      rw [e0]
      rcases decided_le To Lead l[i] with e | e | e
      · exact absurd e hd
      · rw [e, text1]
        rfl
      · rw [e, text2]
        rfl
  · rw [g5, c1]
    exact hn.1
  · rw [g5, c2]
    exact hn.2
  · rw [c1]
    exact g2
  · rw [c2]
    exact g3
  · rw [c1, c2]
    exact g4
theorem tmod_div {t : Int} (ht : 1 ≤ t ∧ t ≤ 10) (i : Nat) : (Int.tmod ((i + 1 : Nat) : Int) t ≠ 0 → (((i + 1 : Nat) : Int) / t) = ((i : Int) / t)) ∧ (Int.tmod ((i + 1 : Nat) : Int) t = 0 → (((i + 1 : Nat) : Int) / t) = ((i : Int) / t) + 1) := by
  rw [Int.tmod_eq_emod_of_nonneg (by omega)]
  have : t = 1 ∨ t = 2 ∨ t = 3 ∨ t = 4 ∨ t = 5 ∨ t = 6 ∨ t = 7 ∨ t = 8 ∨ t = 9 ∨ t = 10 := by omega
  rcases this with rfl | rfl | rfl | rfl | rfl | rfl | rfl | rfl | rfl | rfl <;> omega
theorem sv_at (t : Int) (n i : Nat) (h : i < (strOfNums (srvL t n)).data.toList.length) : (((strOfNums (srvL t n)).data.toList[i]).toNat : Int) = srv t i := by
  have hl : (strOfNums (srvL t n)).data.toList = (srvL t n).map (fun x => UInt8.ofNat x.toNat) := by simp [strOfNums]
  have hi : i < n := by rw [hl, List.length_map, srvL_len] at h; exact h
  have e : (strOfNums (srvL t n)).data.toList[i] = UInt8.ofNat (srv t i).toNat := by
    rw [List.getElem_of_eq hl h, List.getElem_map]
    simp only [srvL, List.getElem_map, List.getElem_range]
  rw [e]
  unfold srv
  split <;> rfl
theorem sf_of {sp : ByteArray} {t : Int} (hb : (pointsB sp && decide (1 ≤ t ∧ t ≤ 10)) = true) : SF sp (strOfNums (srvL t sp.size)) t (served 97 sp.data.toList (strOfNums (srvL t sp.size)).data.toList) (served 98 sp.data.toList (strOfNums (srvL t sp.size)).data.toList) (srv t) (fun i => ((sp.data.toList[i]?.getD 0).toNat : Int)) := by
  rw [Bool.and_eq_true] at hb
  have ht := of_decide_eq_true hb.2
  have hz := pointsB_size hb.1
  have hall := pointsB_all hb.1
  have hlen : (strOfNums (srvL t sp.size)).size = sp.size := by rw [str_size, srvL_len]
  have hll : sp.data.toList.length = (strOfNums (srvL t sp.size)).data.toList.length := by rw [len_data, len_data, hlen]
  have hc : ∀ c d : UInt8, (∀ x, abB x = true → ((x = c) ↔ (d = 97 ∧ x = 97) ∨ (d = 98 ∧ ¬ x = 97))) → ∀ f : Nat → Bool, (∀ j (h : j < sp.size), f j = (decide (srv t j = ((sp.data.toList[j]?.getD 0).toNat : Int)) && (if d = 97 then decide (((sp.data.toList[j]?.getD 0).toNat : Int) = 97) else !decide (((sp.data.toList[j]?.getD 0).toNat : Int) = 97)))) → (d = 97 ∨ d = 98) → cnt_ f sp.size = served c sp.data.toList (strOfNums (srvL t sp.size)).data.toList := by
    intro c d hcd f hf hd
    rw [← len_data sp]
    refine served_cnt c _ _ f hll (fun i h1 h2 => ?_)
    have hi : i < sp.size := by rw [← len_data sp]; exact h1
    rw [hf i hi]
    have hx := List.all_eq_true.1 hall _ (List.getElem_mem h1)
    have hs := sv_at t sp.size i h2
    rw [List.getElem?_eq_getElem h1, Option.getD_some]
    have e1 : decide (srv t i = (sp.data.toList[i].toNat : Int)) = decide ((strOfNums (srvL t sp.size)).data.toList[i] = sp.data.toList[i]) := by
      rw [← hs]
      apply decide_eq_decide.2
      constructor
      · intro h
        exact UInt8.toNat_inj.1 (by omega)
      · intro h
        rw [h]
    rw [e1]
    congr 1
    have := hcd _ hx
    generalize sp.data.toList[i] = x at this ⊢
    rcases hd with rfl | rfl
    · rw [if_pos rfl]
      apply decide_eq_decide.2
      rw [b97, this]
      simp
    · rw [if_neg (by decide), ← decide_not]
      apply decide_eq_decide.2
      rw [b97, this]
      simp
  refine ⟨hlen, by omega, ht, ?_, ?_, ?_, fun _ => ?_, fun i hi hm => ?_, fun i hi hm => ?_, ?_, ?_⟩
  · rw [List.all_eq_true]
    intro x hx
    obtain ⟨i, hi, rfl⟩ := List.getElem_of_mem hx
    have := sv_at t sp.size i hi
    have hv : srv t i = 97 ∨ srv t i = 98 := by unfold srv; split <;> simp
    exact decide_eq_true (by omega)
  · intro i h
    have h2 : i < (strOfNums (srvL t sp.size)).data.toList.length := by rw [len_data]; exact h
    exact sv_at t sp.size i h2
  · intro i h
    have h2 : i < sp.data.toList.length := by rw [len_data]; exact h
    show _ = ((sp.data.toList[i]?.getD 0).toNat : Int)
    rw [List.getElem?_eq_getElem h2, Option.getD_some]
    rfl
  · unfold srv
    rw [show (((0 : Nat) : Int) / t) = 0 from Int.zero_ediv t]
    rfl
  · unfold srv
    rw [(tmod_div ht i).1 hm]
  · unfold srv
    rw [(tmod_div ht i).2 hm]
    intro h
    by_cases e : ((i : Int) / t) % 2 = 0
    · rw [if_pos e, if_neg (by omega)] at h
      exact absurd h (by decide)
    · rw [if_neg e, if_pos (by omega)] at h
      exact absurd h (by decide)
  · refine hc 97 97 (fun x _ => by simp) _ (fun j hj => by rw [if_pos rfl]) (.inl rfl)
  · refine hc 98 98 (fun x hx => ?_) _ (fun j hj => by rw [if_neg (by decide)]) (.inr rfl)
    rcases abB_or hx with rfl | rfl
    · simp
    · simp
end Go.Proofs.YtiknaldhjbdnbaaGreatDoor.Pure
