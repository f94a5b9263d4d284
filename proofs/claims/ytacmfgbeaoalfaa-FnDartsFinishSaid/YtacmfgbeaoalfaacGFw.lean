/- The table of the fewest darts for each score: what the function answers, told by a table. No condition. -/
import Derived.Test.YtacmfgbeaoalfaacQFewx2
import Derived.Test.YtacmfgbeaoalfaacGFt
namespace Go.Proofs.Ytacmfgbeaoalfaa.QFnDartsFinish
open Go.RowKit Go.Proofs.YtacmfgbeaoalfaaW.PrintWords Go.Proofs.YtacmfgbeaoalfaaW.PrintLast Go.Proofs.YtacmfgbeaoalfaaW.PrintMore
set_option linter.unusedVariables false
set_option linter.unusedSimpArgs false
theorem up_set {M : Nat} (hM : M = 1002) (g : Nat → Int) (s : Nat) (a b : Int) : (tab M (up g s a)).set (s : Int).toNat b = tab M (up g s b) := by
  rw [set_tab]
  refine tab_ext fun j _ => ?_
  unfold up
  rw [Int.toNat_natCast]
  by_cases c : j = s
  · rw [if_pos c, if_pos c]
  · rw [if_neg c, if_neg c, if_neg c]
theorem up_at {M : Nat} (hM : M = 1002) (g : Nat → Int) (s : Nat) (hs : s ≤ 1001) (a : Int) : rd (tab M (up g s a)) (s : Int) = a := by
  rw [rd_tab _ (by omega) (by omega)]
  unfold up
  rw [if_pos (by omega)]
theorem up_off {M : Nat} (hM : M = 1002) (g : Nat → Int) (s : Nat) (hs : s ≤ 1001) (a : Int) (i : Int) (h0 : 0 ≤ i) (h1 : i < s) : rd (tab M (up g s a)) i = g i.toNat := by
  rw [rd_tab _ (by omega) (by omega)]
  unfold up
  rw [if_neg (by omega)]
theorem few_l1 {M : Nat} (hM : M = 1002) (L : List S43) (hL : ∀ d ∈ L, 1 ≤ sc d ∧ sc d ≤ 60) (hl : L.length ≤ 100) (b : Bool) (s : Nat) (hs : s ≤ 1001) (g : Nat → Int) (hg : ∀ j, -1 ≤ g j ∧ g j ≤ 5000) : ∀ (m i : Nat), i + m = L.length → ∀ cur : Int, (-1 ≤ cur ∧ cur ≤ 5001) → ∀ k r, fewP.l0 k b (tab M (up g s ((L.drop i).foldl (stA g s) cur))) ((s : Int) + 1) = some r → fewP.l1 (k + m + 1) b (tab M (up g s cur)) s L (L.length : Int) (i : Int) = some r := by
  intro m
  induction m with
  | zero =>
    intro i him cur hc k r h
    have hi : i = L.length := by omega
    subst hi
    rw [List.drop_length, List.foldl_nil] at h
    simp only [Nat.add_zero, fewP.l1]
    rw [if_neg (by omega), w64_in _ (by omega)]
    exact h
  | succ m ih =>
    intro i him cur hc k r h
    have hi : i < L.length := by omega
    have hd := hL L[i] (List.getElem_mem hi)
    have ed : rd_T43 L (i : Int) = L[i] := by unfold rd_T43; simp [List.getD, hi]
    rw [List.drop_eq_getElem_cons hi, List.foldl_cons] at h
    generalize L[i] = d at h hd ed
    have hw : wrap64 (d.f0 * d.f1) = sc d := w64_in _ (by unfold sc at hd; omega)
    have hi1 : wrap64 ((i : Int) + 1) = ((i + 1 : Nat) : Int) := by rw [w64_in _ (by omega)]; rfl
    obtain ⟨K, hK⟩ : ∃ K, k + m + 1 = K := ⟨_, rfl⟩
    have IH : ∀ cur' : Int, (-1 ≤ cur' ∧ cur' ≤ 5001) → fewP.l0 k b (tab M (up g s ((L.drop (i + 1)).foldl (stA g s) cur'))) ((s : Int) + 1) = some r → fewP.l1 K b (tab M (up g s cur')) s L (L.length : Int) ((i + 1 : Nat) : Int) = some r := fun cur' hc' h' => hK ▸ ih (i + 1) (by omega) cur' hc' k r h'
    rw [show k + (m + 1) + 1 = K + 1 by omega]
    show fewP.l1 (K + 1) _ _ _ _ _ _ = _
    have a1 : ((i : Int) < (L.length : Int)) = True := eq_true (by omega)
    have a2 : (0 ≤ (i : Int)) = True := eq_true (by omega)
    simp only [fewP.l1, a1, a2, ed, impl_Dart_score.f, Option.bind_some, hw, hi1, tab_len, if_true]
    generalize hq : stA g s cur d = q at h
    unfold stA at hq
    by_cases c1 : sc d ≤ s
    · have w1 : wrap64 ((s : Int) - sc d) = (s : Int) - sc d := w64_in _ (by omega)
      have r1 := up_off hM g s hs cur ((s : Int) - sc d) (by omega) (by omega)
      have r2 := up_at hM g s hs cur
      have hv := hg ((s : Int) - sc d).toNat
      have b1 : (0 ≤ (s : Int) - sc d) = True := eq_true (by omega)
      have b2 : ((s : Int) - sc d < (M : Int)) = True := eq_true (by omega)
      have b3 : (0 ≤ (s : Int)) = True := eq_true (by omega)
      have b4 : ((s : Int) < (M : Int)) = True := eq_true (by omega)
      have w2 : wrap64 (g ((s : Int) - sc d).toNat + 1) = g ((s : Int) - sc d).toNat + 1 := w64_in _ (by omega)
      have b5 : (sc d ≤ (s : Int)) = True := eq_true c1
      simp only [w1, r1, r2, w2, b1, b2, b3, b4, b5, if_true, up_set hM]
      rw [if_pos c1] at hq
      generalize g ((s : Int) - sc d).toNat = v at *
      by_cases c2 : v ≥ 0
      · rw [if_pos c2] at hq ⊢
        by_cases c3 : cur < 0
        · rw [if_pos c3] at hq ⊢
          exact IH _ (by omega) (by rw [hq]; exact h)
        · rw [if_neg c3] at hq ⊢
          by_cases c4 : v + 1 < cur
          · rw [if_pos c4] at hq ⊢
            exact IH _ (by omega) (by rw [hq]; exact h)
          · rw [if_neg c4] at hq ⊢
            exact IH _ hc (by rw [hq]; exact h)
      · rw [if_neg c2] at hq ⊢
        exact IH _ hc (by rw [hq]; exact h)
    · rw [if_neg c1] at hq ⊢
      exact IH _ hc (by rw [hq]; exact h)
theorem few_l3 {M : Nat} (hM : M = 1002) (L : List S43) (hL : ∀ d ∈ L, 1 ≤ sc d ∧ sc d ≤ 60) (hl : L.length ≤ 100) (t : Nat → Int) (ht : ∀ j, -1 ≤ t j ∧ t j ≤ 5000) (n : Int) (s : Nat) (hs : s ≤ 1001) (g : Nat → Int) : ∀ (m i : Nat), i + m = L.length → ∀ cur : Int, (-1 ≤ cur ∧ cur ≤ 5001) → ∀ k r, fewP.l2 k (tab M t) (tab M (up g s ((L.drop i).foldl (stB t s) cur))) n ((s : Int) + 1) = some r → fewP.l3 (k + m + 1) (tab M t) (tab M (up g s cur)) s n s L (L.length : Int) (i : Int) = some r := by
  intro m
  induction m with
  | zero =>
    intro i him cur hc k r h
    have hi : i = L.length := by omega
    subst hi
    rw [List.drop_length, List.foldl_nil] at h
    simp only [Nat.add_zero, fewP.l3]
    rw [if_neg (by omega), w64_in _ (by omega)]
    exact h
  | succ m ih =>
    intro i him cur hc k r h
    have hi : i < L.length := by omega
    have hd := hL L[i] (List.getElem_mem hi)
    have ed : rd_T43 L (i : Int) = L[i] := by unfold rd_T43; simp [List.getD, hi]
    rw [List.drop_eq_getElem_cons hi, List.foldl_cons] at h
    generalize L[i] = d at h hd ed
    have hw : wrap64 (d.f0 * d.f1) = sc d := w64_in _ (by unfold sc at hd; omega)
    have hi1 : wrap64 ((i : Int) + 1) = ((i + 1 : Nat) : Int) := by rw [w64_in _ (by omega)]; rfl
    obtain ⟨K, hK⟩ : ∃ K, k + m + 1 = K := ⟨_, rfl⟩
    have IH : ∀ cur' : Int, (-1 ≤ cur' ∧ cur' ≤ 5001) → fewP.l2 k (tab M t) (tab M (up g s ((L.drop (i + 1)).foldl (stB t s) cur'))) n ((s : Int) + 1) = some r → fewP.l3 K (tab M t) (tab M (up g s cur')) s n s L (L.length : Int) ((i + 1 : Nat) : Int) = some r := fun cur' hc' h' => hK ▸ ih (i + 1) (by omega) cur' hc' k r h'
    rw [show k + (m + 1) + 1 = K + 1 by omega]
    show fewP.l3 (K + 1) _ _ _ _ _ _ _ _ = _
    have a1 : ((i : Int) < (L.length : Int)) = True := eq_true (by omega)
    have a2 : (0 ≤ (i : Int)) = True := eq_true (by omega)
    simp only [fewP.l3, a1, a2, ed, impl_Dart_score.f, Option.bind_some, hw, hi1, tab_len, if_true]
    generalize hq : stB t s cur d = q at h
    unfold stB at hq
    by_cases c0 : d.f1 = 2
    · rw [if_pos c0] at hq ⊢
      by_cases c1 : sc d ≤ s
      · have w1 : wrap64 ((s : Int) - sc d) = (s : Int) - sc d := w64_in _ (by omega)
        have r1 : rd (tab M t) ((s : Int) - sc d) = t ((s : Int) - sc d).toNat := rd_tab _ (by omega) (by omega)
        have r2 := up_at hM g s hs cur
        have hv := ht ((s : Int) - sc d).toNat
        have b1 : (0 ≤ (s : Int) - sc d) = True := eq_true (by omega)
        have b2 : ((s : Int) - sc d < (M : Int)) = True := eq_true (by omega)
        have b3 : (0 ≤ (s : Int)) = True := eq_true (by omega)
        have b4 : ((s : Int) < (M : Int)) = True := eq_true (by omega)
        have w2 : wrap64 (t ((s : Int) - sc d).toNat + 1) = t ((s : Int) - sc d).toNat + 1 := w64_in _ (by omega)
        have b5 : (sc d ≤ (s : Int)) = True := eq_true c1
        simp only [w1, r1, r2, w2, b1, b2, b3, b4, b5, if_true, up_set hM]
        rw [if_pos c1] at hq
        generalize t ((s : Int) - sc d).toNat = v at *
        by_cases c3 : cur < 0
        · rw [if_pos c3] at hq ⊢
          exact IH _ (by omega) (by rw [hq]; exact h)
        · rw [if_neg c3] at hq ⊢
          by_cases c4 : v + 1 < cur
          · rw [if_pos c4] at hq ⊢
            exact IH _ (by omega) (by rw [hq]; exact h)
          · rw [if_neg c4] at hq ⊢
            exact IH _ hc (by rw [hq]; exact h)
      · rw [if_neg c1] at hq ⊢
        exact IH _ hc (by rw [hq]; exact h)
    · rw [if_neg c0] at hq ⊢
      exact IH _ hc (by rw [hq]; exact h)
theorem few_l0 {M : Nat} (hM : M = 1002) (b : Bool) : ∀ n s : Nat, s + n = M → 1 ≤ s → ∀ k r, fewP.l0 k b (tab M (gA M)) (M : Int) = some r → ∃ k', fewP.l0 k' b (tab M (gA s)) (s : Int) = some r := by
  intro n
  induction n with
  | zero =>
    intro s hs _ k r h
    have e : s = M := by omega
    subst e
    exact ⟨k, h⟩
  | succ n ih =>
    intro s hs h1 k r h
    obtain ⟨k1, h2⟩ := ih (s + 1) (by omega) (by omega) k r h
    have es : (s : Int) + 1 = ((s + 1 : Nat) : Int) := by omega
    have h3 := few_l1 hM boardL brd_ok (by rw [brd_len]; omega) b s (by omega) (gA s) (gA_b s) 62 0 (by rw [brd_len]) (-1) (by omega) k1 r (by
      rw [List.drop_zero, cellA s h1 (by omega), ← show tab M (gA (s + 1)) = tab M (up (gA s) s (tA s)) from tab_ext fun j hj => by
        unfold up gA
        by_cases c : j = s
        · subst c; rw [if_pos (by omega), if_pos rfl]
        · rw [if_neg c]
          by_cases c2 : j < s
          · rw [if_pos (by omega), if_pos c2]
          · rw [if_neg (by omega), if_neg c2]]
      rw [es]
      exact h2)
    obtain ⟨K, hK⟩ : ∃ K, k1 + 62 + 1 = K := ⟨_, rfl⟩
    rw [hK] at h3
    refine ⟨K + 1, ?_⟩
    have e : (tab M (gA s)).set (s : Int).toNat (-1) = tab M (up (gA s) s (-1)) := by
      rw [set_tab]
      refine tab_ext fun j _ => ?_
      unfold up
      rw [Int.toNat_natCast]
    simp only [fewP.l0]
    rw [if_pos (by omega), if_pos (by omega), if_pos (by rw [tab_len]; omega), e]
    simp only [impl_board.f, Option.bind_some]
    exact h3
theorem few_l2 {M : Nat} (hM : M = 1002) : ∀ n s : Nat, s + n = M → ∃ k', fewP.l2 k' (tab M (gA M)) (tab M (gB s)) (M : Int) (s : Int) = some (tab M (gB M)) := by
  intro n
  induction n with
  | zero =>
    intro s hs
    have e : s = M := by omega
    subst e
    refine ⟨1, ?_⟩
    simp only [fewP.l2]
    rw [if_neg (by omega)]
  | succ n ih =>
    intro s hs
    obtain ⟨k1, h2⟩ := ih (s + 1) (by omega)
    have es : (s : Int) + 1 = ((s + 1 : Nat) : Int) := by omega
    have h3 := few_l3 hM boardL brd_ok (by rw [brd_len]; omega) (gA M) (gA_b _) M s (by omega) (gB s) 62 0 (by rw [brd_len]) (-1) (by omega) k1 _ (by
      rw [List.drop_zero, show boardL.foldl (stB (gA M) s) (-1) = (tB s : Int) - 1 by rw [hM]; exact cellB s (by omega), ← show tab M (gB (s + 1)) = tab M (up (gB s) s ((tB s : Int) - 1)) from tab_ext fun j hj => by
        unfold up gB
        by_cases c : j = s
        · subst c; rw [if_pos (by omega), if_pos rfl]
        · rw [if_neg c]
          by_cases c2 : j < s
          · rw [if_pos (by omega), if_pos c2]
          · rw [if_neg (by omega), if_neg c2]]
      rw [es]
      exact h2)
    obtain ⟨K, hK⟩ : ∃ K, k1 + 62 + 1 = K := ⟨_, rfl⟩
    rw [hK] at h3
    refine ⟨K + 1, ?_⟩
    have e : (tab M (gB s)).set (s : Int).toNat (-1) = tab M (up (gB s) s (-1)) := by
      rw [set_tab]
      refine tab_ext fun j _ => ?_
      unfold up
      rw [Int.toNat_natCast]
    simp only [fewP.l2]
    rw [if_pos (by omega), if_pos (by omega), if_pos (by rw [tab_len]; omega), e]
    simp only [impl_board.f, Option.bind_some]
    exact h3
theorem gA_1 (M : Nat) : tab M (gA 1) = List.replicate M 0 := by
  rw [rep_tab]
  refine tab_ext fun j hj => ?_
  unfold gA
  by_cases c : j < 1
  · have : j = 0 := by omega
    subst this
    rw [if_pos c, show tA 0 = 0 by kernel_rfl]
    rfl
  · rw [if_neg c]
theorem fewP_eq (b : Bool) : ∃ k, fewP.f k b = some (fewL b) := by
  obtain ⟨M, hM⟩ : ∃ M : Nat, M = 1002 := ⟨_, rfl⟩
  have e2 : (1002 : Nat) = M := hM.symm
  have h : ∃ k, fewP.l0 k b (tab M (gA M)) (M : Int) = some (fewL b) := by
    cases b with
    | false =>
      refine ⟨1, ?_⟩
      simp only [fewP.l0]
      rw [if_neg (by omega), if_neg (by decide)]
      unfold fewL
      rw [if_neg (by decide), e2]
      exact congrArg some (tab_ext fun j hj => by unfold gA; rw [if_pos hj])
    | true =>
      obtain ⟨k, h⟩ := few_l2 hM M 0 (by omega)
      refine ⟨k + 1, ?_⟩
      simp only [fewP.l0]
      rw [if_neg (by omega), if_pos True.intro, if_pos (by omega)]
      simp only [Option.bind_some, List.length_replicate]
      rw [e2]
      have e : tab M (gB 0) = List.replicate M 0 := by
        rw [rep_tab]
        exact tab_ext fun j hj => by unfold gB; rw [if_neg (by omega)]
      rw [e] at h
      refine h.trans ?_
      unfold fewL
      rw [if_pos rfl, e2]
      exact congrArg some (tab_ext fun j hj => by unfold gB; rw [if_pos hj])
  obtain ⟨k, h⟩ := h
  obtain ⟨k', h'⟩ := few_l0 hM b 1001 1 (by omega) (by omega) k _ h
  refine ⟨k', ?_⟩
  unfold fewP.f
  rw [if_pos (by omega), e2, ← gA_1]
  exact h'
def impl_fewest.f (a0 : Bool) : Option (List Int) := some (fewL a0)
theorem impl_fewest.calls (a0 : Bool) (r : List Int) (w : World) (h : impl_fewest.f a0 = some r) :
    Calls Try.prog 34 #[.bool a0] w fun e w' => ∃ v0_ : Value, e = .returned (v0_) ∧ Kd.R (Kd.int .i64) 3 w' w.heap.size (fun _ => True) v0_ r ∧ Below w.heap.size w w' := by
  obtain ⟨k, hk⟩ := fewP_eq a0
  exact fewP.calls k a0 r w (hk.trans h)
end Go.Proofs.Ytacmfgbeaoalfaa.QFnDartsFinish
