/- Numbers without a finish, and the first finish: what both sides answer at a valid number left and a valid number of darts. No condition. -/
import Derived.Test.YtacmfgbeaoalfaacGPF
namespace Go.Proofs.Ytacmfgbeaoalfaa.Pure
open Go.RowKit Go.Proofs.Ytacmfgbeaoalfaa.QFnDartsFinish Go.Proofs.YtacmfgbeaoalfaaW.PrintWords Go.Proofs.YtacmfgbeaoalfaaW.PrintLast Go.Proofs.YtacmfgbeaoalfaaW.PrintMore
set_option linter.unusedVariables false
set_option linter.unusedSimpArgs false
theorem rdI (l : List Int) (n : Nat) (h : n < l.length) : rd l (n : Int) = l[n] := by
  unfold rd
  simp [List.getD_eq_getElem?_getD, List.getElem?_eq_getElem h]
theorem same_l0 (l : List Int) (hl : l.length ≤ 1048576) (d : Nat) : ∀ i : Nat, i + d = l.length → Ev (fun k => laws_bSame.l0 k l l (l.length : Int) (i : Int)) true := by
  induction d with
  | zero =>
    intro i hi
    refine ev_some fun k => ?_
    simp only [laws_bSame.l0]
    rw [if_neg (by omega)]
  | succ d ih =>
    intro i hi
    refine Ev.step (f := fun k => laws_bSame.l0 k l l (l.length : Int) ((i + 1 : Nat) : Int)) (fun k => ?_) (ih (i + 1) (by omega))
    simp only [laws_bSame.l0]
    rw [if_pos (by omega), if_pos (by omega), if_pos (by omega), if_pos (by omega)]
    simp only [if_true]
    rw [wrap_id (by omega) (by omega)]
    rfl
theorem same_ev (l : List Int) (hl : l.length ≤ 1048576) : Ev (fun k => laws_bSame.f k l l) true := by
  have := same_l0 l hl l.length 0 (by omega)
  simpa [laws_bSame.f] using this
theorem rises_l0 (a : List Int) (ha : a.Pairwise (· < ·)) (hl : a.length ≤ 1048576) (d : Nat) : ∀ i : Nat, i + d = a.length → 1 ≤ i → Ev (fun k => laws_bRises.l0 k a (i : Int)) true := by
  induction d with
  | zero =>
    intro i hi _
    refine ev_some fun k => ?_
    simp only [laws_bRises.l0]
    rw [if_neg (by omega)]
  | succ d ih =>
    intro i hi h1
    have hw : wrap64 ((i : Int) - 1) = ((i - 1 : Nat) : Int) := by rw [wrap_id (by omega) (by omega)]; omega
    have hlt := List.pairwise_iff_getElem.1 ha (i - 1) i (by omega) (by omega) (by omega)
    refine Ev.step (f := fun k => laws_bRises.l0 k a ((i + 1 : Nat) : Int)) (fun k => ?_) (ih (i + 1) (by omega) (by omega))
    simp only [laws_bRises.l0]
    rw [if_pos (by omega), hw, if_pos (by omega), if_pos (by omega), if_pos (by omega), rdI a (i - 1) (by omega), rdI a i (by omega), if_neg (by omega), wrap_id (by omega) (by omega)]
    rfl
theorem rises_ev (a : List Int) (ha : a.Pairwise (· < ·)) (hl : a.length ≤ 1048576) : Ev (fun k => laws_bRises.f k a) true := by
  unfold laws_bRises.f
  by_cases c : 1 ≤ a.length
  · exact rises_l0 a ha hl (a.length - 1) 1 (by omega) (Nat.le_refl _)
  · refine ev_some fun k => ?_
    simp only [laws_bRises.l0]
    rw [if_neg (by omega)]
theorem has_l0 (a : List Int) (n : Int) (hl : a.length ≤ 1048576) (d : Nat) : ∀ i : Nat, i + d = a.length → Ev (fun k => laws_bHas.l0 k n a (a.length : Int) (i : Int)) (decide (n ∈ a.drop i)) := by
  induction d with
  | zero =>
    intro i hi
    refine ev_some fun k => ?_
    simp only [laws_bHas.l0]
    rw [if_neg (by omega), List.drop_of_length_le (by omega)]
    simp
  | succ d ih =>
    intro i hi
    have hlt : i < a.length := by omega
    rw [List.drop_eq_getElem_cons hlt]
    by_cases c : a[i] = n
    · refine ev_some fun k => ?_
      simp only [laws_bHas.l0]
      rw [if_pos (by omega), if_pos (by omega), if_pos (by omega), rdI a i hlt, if_pos c]
      simp [c]
    · have h := ih (i + 1) (by omega)
      have e : decide (n ∈ a[i] :: a.drop (i + 1)) = decide (n ∈ a.drop (i + 1)) := decide_eq_decide.2 ⟨fun h => (List.mem_cons.1 h).resolve_left (fun e => c e.symm), fun h => List.mem_cons_of_mem _ h⟩
      rw [e]
      refine Ev.step (fun k => ?_) h
      simp only [laws_bHas.l0]
      rw [if_pos (by omega), if_pos (by omega), if_pos (by omega), rdI a i hlt, if_neg c, wrap_id (by omega) (by omega)]
      rfl
theorem has_ev (a : List Int) (n : Int) (hl : a.length ≤ 1048576) : Ev (fun k => laws_bHas.f k a n) (decide (n ∈ a)) := by
  have := has_l0 a n hl a.length 0 (by omega)
  rwa [List.drop_zero] at this
def noL (K : Nat) : Nat → Nat → List Int
  | 0, _ => []
  | m + 1, j => if canN K j = true then noL K m (j + 1) else (j : Int) :: noL K m (j + 1)
theorem noL_len (K : Nat) : ∀ m j, (noL K m j).length ≤ m
  | 0, _ => Nat.le_refl _
  | m + 1, j => by
    have := noL_len K m (j + 1)
    unfold noL
    split
    · omega
    · rw [List.length_cons]; omega
theorem noL_mem (K : Nat) (x : Nat) : ∀ m j, (x : Int) ∈ noL K m j ↔ (j ≤ x ∧ x < j + m ∧ canN K x = false)
  | 0, j => by
    exact ⟨fun h => absurd (show (x : Int) ∈ ([] : List Int) from h) (by simp), fun h => by omega⟩
  | m + 1, j => by
    have ih := noL_mem K x m (j + 1)
    unfold noL
    by_cases c : canN K j = true
    · rw [if_pos c, ih]
      refine ⟨fun h => ⟨by omega, by omega, h.2.2⟩, fun h => ⟨?_, by omega, h.2.2⟩⟩
      by_cases e : x = j
      · subst e
        rw [c] at h
        cases h.2.2
      · omega
    · rw [if_neg c, List.mem_cons, ih]
      refine ⟨fun h => ?_, fun h => ?_⟩
      · rcases h with h | h
        · have e : x = j := by omega
          subst e
          exact ⟨by omega, by omega, by simpa using c⟩
        · exact ⟨by omega, by omega, h.2.2⟩
      · by_cases e : x = j
        · left; omega
        · right; exact ⟨by omega, by omega, h.2.2⟩
theorem noL_lo (K : Nat) : ∀ m j, ∀ x ∈ noL K m j, (j : Int) ≤ x
  | 0, _, x, h => by cases h
  | m + 1, j, x, h => by
    unfold noL at h
    split at h
    · have := noL_lo K m (j + 1) x h
      omega
    · rcases List.mem_cons.1 h with h | h
      · omega
      · have := noL_lo K m (j + 1) x h
        omega
theorem noL_inc (K : Nat) : ∀ m j, (noL K m j).Pairwise (· < ·)
  | 0, _ => List.Pairwise.nil
  | m + 1, j => by
    unfold noL
    split
    · exact noL_inc K m (j + 1)
    · refine List.pairwise_cons.2 ⟨fun x hx => ?_, noL_inc K m (j + 1)⟩
      have := noL_lo K m (j + 1) x hx
      omega
theorem within_can (K j : Nat) (hj : j < 1002) (h1 : 1 ≤ K) : impl_within.f (rd (fewL true) (j : Int)) 1 (K : Int) = some (canN K j) := by
  rw [within_eq, rd_fewL j hj]
  congr 1
  cases e : canN K j with
  | true => have := (canN_iff K j).1 e; exact decide_eq_true (by omega)
  | false =>
    refine decide_eq_false fun hh => ?_
    have := (canN_iff K j).2 (by omega)
    rw [e] at this
    cases this
theorem nof_l0 (n K : Nat) (hn : n ≤ 1001) (h1 : 1 ≤ K) : ∀ (m j : Nat) (acc : List Int), j + m = n + 1 ∨ (m = 0 ∧ n < j) → j ≤ 1100 → acc.length ≤ j → Ev (fun k => impl_NoFinishes.l0 k (n : Int) (K : Int) (fewL true) acc (j : Int)) (acc ++ noL K m j, true) := by
  intro m
  induction m with
  | zero =>
    intro j acc hj hj2 ha
    refine ev_some fun k => ?_
    simp only [impl_NoFinishes.l0]
    rw [if_neg (by omega)]
    show some (acc, true) = some (acc ++ [], true)
    rw [List.append_nil]
  | succ m ih =>
    intro j acc hj hj2 ha
    have w1 : wrap64 ((j : Int) + 1) = ((j + 1 : Nat) : Int) := by rw [wrap_id (by omega) (by omega)]; rfl
    by_cases c : canN K j = true
    · have h := ih (j + 1) acc (by omega) (by omega) (by omega)
      have e : noL K (m + 1) j = noL K m (j + 1) := if_pos c
      rw [e]
      refine Ev.step (fun k => ?_) h
      simp only [impl_NoFinishes.l0]
      rw [if_pos (by omega), if_pos (by omega), if_pos (by rw [fewL_len]; omega), within_can K j (by omega) h1, Option.bind_some, if_pos c, w1]
    · have h := ih (j + 1) (acc ++ [(j : Int)]) (by omega) (by omega) (by rw [List.length_append, List.length_singleton]; omega)
      have e : noL K (m + 1) j = (j : Int) :: noL K m (j + 1) := if_neg c
      rw [List.append_assoc, List.singleton_append, ← e] at h
      refine Ev.step (fun k => ?_) h
      simp only [impl_NoFinishes.l0]
      rw [if_pos (by omega), if_pos (by omega), if_pos (by rw [fewL_len]; omega), within_can K j (by omega) h1, Option.bind_some, if_neg c, if_pos (by omega), w1]
theorem inof_ev (n K : Nat) (hn : n ≤ 1001) (h1 : 1 ≤ K) (hK : K ≤ 3) : Ev (fun k => impl_NoFinishes.f k (n : Int) (K : Int)) (noL K (n - 1) 2, true) := by
  have h := nof_l0 n K hn h1 (n - 1) 2 [] (by omega) (by omega) (by simp)
  rw [List.nil_append] at h
  have h2 : Ev (fun k => impl_NoFinishes.j0 k (n : Int) (K : Int) false) (noL K (n - 1) 2, true) := Ev.step (fun k => by simp only [impl_NoFinishes.j0]; rw [if_neg (by decide), impl_fewest.f, Option.bind_some]; rfl) h
  refine Ev.congr (fun k => ?_) h2
  unfold impl_NoFinishes.f
  rw [within_eq, Option.bind_some, if_pos (decide_eq_true (by omega)), isFew_eq, Option.bind_some, decide_eq_true (by omega)]
  rfl
def bt (n : Nat) (f : Nat → Bool) : List Bool := (List.range n).map f
theorem bt_len (n : Nat) (f : Nat → Bool) : (bt n f).length = n := by simp [bt]
theorem bt_ext {n : Nat} {f g : Nat → Bool} (h : ∀ j, j < n → f j = g j) : bt n f = bt n g := List.map_congr_left (fun j hj => h j (List.mem_range.1 hj))
theorem rd_bt {n : Nat} {f : Nat → Bool} (i : Nat) (h : i < n) : rdOf false (bt n f) (i : Int) = f i := by
  simp [rdOf, bt, List.getD, h]
theorem set_bt (n : Nat) (f : Nat → Bool) (i : Nat) (v : Bool) : (bt n f).set i v = bt n (fun j => if j = i then v else f j) := by
  apply List.ext_getElem
  · simp [bt]
  · intro j h1 h2
    simp only [bt, List.getElem_set, List.getElem_map, List.getElem_range]
    by_cases c : i = j
    · rw [if_pos c, if_pos c.symm]
    · rw [if_neg c, if_neg (fun e => c e.symm)]
def addF (g : Nat → Bool) (F : Nat → Nat) (s : Nat) : Nat → Bool := fun j => g j || (decide (j < s) && Nat.blt 0 (F j))
theorem snof_l1 {M : Nat} (hM : M = 1002) (n K : Nat) (hn : n ≤ 1001) (x7 : Int) (F : Nat → Nat) (hF : ∀ j, F j ≤ 1000000000) (g : Nat → Bool) (r : List Int × Bool) (h : Ev (fun k => spec_NoFinishes.l0 k (n : Int) (K : Int) (bt M (addF g F (n + 1))) (wrap64 (x7 + 1))) r) :
    ∀ m i : Nat, i + m = n + 1 → Ev (fun k => spec_NoFinishes.l1 k (n : Int) (K : Int) (bt M (addF g F i)) x7 (wt (n + 1) F) ((n + 1 : Nat) : Int) (i : Int)) r := by
  intro m
  induction m with
  | zero =>
    intro i hi
    have hi : i = n + 1 := by omega
    subst hi
    refine Ev.step (fun k => ?_) h
    simp only [spec_NoFinishes.l1]
    rw [if_neg (by omega)]
  | succ m ih =>
    intro i hi
    have w1 : wrap64 ((i : Int) + 1) = ((i + 1 : Nat) : Int) := by rw [wrap_id (by omega) (by omega)]; rfl
    have hv : rd (wt (n + 1) F) (i : Int) = (F i : Int) := by rw [rd_wt i (by omega)]; exact wrap_id (by omega) (by have := hF i; omega)
    have hg : addF g F i i = g i := by unfold addF; rw [decide_eq_false (by omega)]; simp
    have key : ∀ v : Bool, v = (g i || Nat.blt 0 (F i)) → (bt M (addF g F i)).set i v = bt M (addF g F (i + 1)) := by
      intro v hv2
      rw [set_bt]
      refine bt_ext fun j _ => ?_
      by_cases c : j = i
      · subst c
        rw [if_pos rfl, hv2]
        unfold addF
        rw [decide_eq_true (p := j < j + 1) (by omega)]
        rfl
      · rw [if_neg c]
        unfold addF
        rw [show decide (j < i + 1) = decide (j < i) from decide_eq_decide.2 (by omega)]
    refine Ev.step (fun k => ?_) (ih (i + 1) (by omega))
    simp only [spec_NoFinishes.l1]
    rw [if_pos (by omega), if_pos (by omega), if_pos (by rw [wt_len]; omega), if_pos (by rw [bt_len]; omega), rd_bt i (by omega), hg, w1, hv, Int.toNat_natCast]
    cases e : g i with
    | true => rw [if_pos rfl, key true (by rw [e]; rfl)]
    | false =>
      rw [if_neg (by decide), key _ (by
        rw [e, Bool.false_or]
        by_cases c : 0 < F i
        · rw [blt_t c]; exact decide_eq_true (by omega)
        · rw [blt_f c]; exact decide_eq_false (by omega))]
theorem snof_l2 {M : Nat} (hM : M = 1002) (n K : Nat) (hn : n ≤ 1001) (g : Nat → Bool) (hg : ∀ j, j ≤ n → g j = canN K j) : ∀ (m j : Nat) (acc : List Int), j + m = n + 1 ∨ (m = 0 ∧ n < j) → j ≤ 1100 → acc.length ≤ j → Ev (fun k => spec_NoFinishes.l2 k (n : Int) (bt M g) acc (j : Int)) (acc ++ noL K m j, true) := by
  intro m
  induction m with
  | zero =>
    intro j acc hj hj2 ha
    refine ev_some fun k => ?_
    simp only [spec_NoFinishes.l2]
    rw [if_neg (by omega)]
    show some (acc, true) = some (acc ++ [], true)
    rw [List.append_nil]
  | succ m ih =>
    intro j acc hj hj2 ha
    have w1 : wrap64 ((j : Int) + 1) = ((j + 1 : Nat) : Int) := by rw [wrap_id (by omega) (by omega)]; rfl
    by_cases c : canN K j = true
    · have h := ih (j + 1) acc (by omega) (by omega) (by omega)
      have e : noL K (m + 1) j = noL K m (j + 1) := if_pos c
      rw [e]
      refine Ev.step (fun k => ?_) h
      simp only [spec_NoFinishes.l2]
      rw [if_pos (by omega), if_pos (by omega), if_pos (by rw [bt_len]; omega), rd_bt j (by omega), hg j (by omega), if_pos c, w1]
    · have h := ih (j + 1) (acc ++ [(j : Int)]) (by omega) (by omega) (by rw [List.length_append, List.length_singleton]; omega)
      have e : noL K (m + 1) j = (j : Int) :: noL K m (j + 1) := if_neg c
      rw [List.append_assoc, List.singleton_append, ← e] at h
      refine Ev.step (fun k => ?_) h
      simp only [spec_NoFinishes.l2]
      rw [if_pos (by omega), if_pos (by omega), if_pos (by rw [bt_len]; omega), rd_bt j (by omega), hg j (by omega), if_neg c, if_pos (by omega), w1]
theorem orF_snoc (j : Nat) : ∀ m x, orF j (m + 1) x = (orF j m x || Nat.blt 0 (cF (x + m) j))
  | 0, x => by show (Nat.blt 0 (cF x j) || false) = (false || Nat.blt 0 (cF (x + 0) j)); rw [Bool.or_false, Bool.false_or, Nat.add_zero]
  | m + 1, x => by
    show (Nat.blt 0 (cF x j) || orF j (m + 1) (x + 1)) = ((Nat.blt 0 (cF x j) || orF j m (x + 1)) || _)
    rw [orF_snoc j m (x + 1), Bool.or_assoc, show x + 1 + m = x + (m + 1) by omega]
theorem snof_l0 {M : Nat} (hM : M = 1002) (n K : Nat) (hn : n ≤ 1001) (h1 : 1 ≤ K) (hK : K ≤ 3) (hs : ∀ j, j ≤ 1001 → orF j K 0 = canN K j) : ∀ (m x : Nat), x + m = K → ∀ g : Nat → Bool, (∀ j, j ≤ n → g j = orF j x 0) → Ev (fun k => spec_NoFinishes.l0 k (n : Int) (K : Int) (bt M g) ((x + 1 : Nat) : Int)) (noL K (n - 1) 2, true) := by
  intro m
  induction m with
  | zero =>
    intro x hx g hg
    have hx : x = K := by omega
    subst hx
    have h := snof_l2 hM n x hn g (fun j hj => by rw [hg j hj]; exact hs j (by omega)) (n - 1) 2 [] (by omega) (by omega) (by simp)
    rw [List.nil_append] at h
    refine Ev.step (fun k => ?_) h
    simp only [spec_NoFinishes.l0]
    rw [if_neg (by omega)]
    rfl
  | succ m ih =>
    intro x hx g hg
    have hc := cntF_ev x (n + 1) (by omega) (by omega) (by omega)
    rw [show ((n + 1 : Nat) : Int) - 1 = (n : Int) by omega] at hc
    have w1 : wrap64 (((x + 1 : Nat) : Int) + 1) = ((x + 1 + 1 : Nat) : Int) := by rw [wrap_id (by omega) (by omega)]; omega
    have h3 := ih (x + 1) (by omega) (addF g (cF x) (n + 1)) (fun j hj => by
      unfold addF
      rw [decide_eq_true (by omega), Bool.true_and, hg j hj, orF_snoc, Nat.zero_add])
    rw [← w1] at h3
    have h4 := snof_l1 hM n K hn ((x + 1 : Nat) : Int) (cF x) (fun j => by have := cF_bd (k := x) (by omega) j; omega) g _ h3 (n + 1) 0 (by omega)
    have e0 : addF g (cF x) 0 = g := by
      funext j
      unfold addF
      rw [decide_eq_false (by omega)]
      simp
    rw [e0] at h4
    have h5 : Ev (fun k => (spec_daCount.f k ((x + 1 : Nat) : Int) (n : Int) true).bind fun t315 => (spec_NoFinishes.l1 k (n : Int) (K : Int) (bt M g) ((x + 1 : Nat) : Int) t315 (t315.length : Int) 0)) (noL K (n - 1) 2, true) := Ev.bind hc (by rw [wt_len]; exact h4)
    refine Ev.step (fun k => ?_) h5
    simp only [spec_NoFinishes.l0]
    rw [if_pos (by omega)]
theorem snof_ev (n K : Nat) (hn : n ≤ 1001) (h1 : 1 ≤ K) (hK : K ≤ 3) (hs : ∀ j, j ≤ 1001 → orF j K 0 = canN K j) : Ev (fun k => spec_NoFinishes.f k (n : Int) (K : Int)) (noL K (n - 1) 2, true) := by
  obtain ⟨M, hM⟩ : ∃ M : Nat, M = 1002 := ⟨_, rfl⟩
  have h := snof_l0 hM n K hn h1 hK hs K 0 (by omega) (fun _ => false) (fun j _ => rfl)
  have e : bt M (fun _ => false) = List.replicate M false := by
    apply List.ext_getElem
    · simp [bt]
    · intro j h1 h2
      simp [bt]
  rw [e] at h
  have h2 : Ev (fun k => spec_NoFinishes.j0 k (n : Int) (K : Int) false) (noL K (n - 1) 2, true) := Ev.step (fun k => by
    simp only [spec_NoFinishes.j0]
    rw [if_neg (by decide), if_pos (by omega), show List.replicate 1002 false = List.replicate M false by rw [hM]]
    rfl) h
  refine Ev.congr (fun k => ?_) h2
  unfold spec_NoFinishes.f
  rw [daLeft_eq, Option.bind_some, if_pos (decide_eq_true (by omega)), daDarts_eq, Option.bind_some, decide_eq_true (by omega)]
  rfl
def pI (n left : Nat) (d : S43) : Bool := if n > 1 then (decide (sc d < left) && Nat.beq (tB ((left : Int) - sc d).toNat) n) else (decide (n = 1) && (decide (sc d = left) && decide (d.f1 = 2)))
def fI : Nat → Nat → List S43
  | 0, _ => []
  | n + 1, left => match boardL.find? (pI (n + 1) left) with
    | some d => d :: fI n ((left : Int) - sc d).toNat
    | none => fI n left
theorem pI_le {n left : Nat} {d : S43} (h : pI n left d = true) : sc d ≤ left := by
  unfold pI at h
  split at h
  · rw [Bool.and_eq_true] at h
    have := of_decide_eq_true h.1
    omega
  · rw [Bool.and_eq_true, Bool.and_eq_true] at h
    have := of_decide_eq_true h.2.1
    omega
theorem ff_l1 (n left : Nat) (hn : n ≤ 20) (hleft : left ≤ 1001) (acc : List S43) (ha : acc.length ≤ 1000) (L : List S43) (hL : ∀ d ∈ L, 1 ≤ sc d ∧ sc d ≤ 60) (hl : L.length ≤ 100) (r : List S43 × Bool) : ∀ m i : Nat, i + m = L.length →
    (match (L.drop i).find? (pI (n + 1) left) with
      | some d => Ev (fun k => impl_FirstFinish.l0 k (((left : Int) - sc d).toNat : Int) (fewL true) (acc ++ [d]) (n : Int)) r
      | none => Ev (fun k => impl_FirstFinish.l0 k (left : Int) (fewL true) acc (n : Int)) r) →
    Ev (fun k => impl_FirstFinish.l1 k (left : Int) (fewL true) acc ((n + 1 : Nat) : Int) L (L.length : Int) (i : Int)) r := by
  have wn : wrap64 (((n + 1 : Nat) : Int) - 1) = (n : Int) := by rw [wrap_id (by omega) (by omega)]; omega
  intro m
  induction m with
  | zero =>
    intro i him h
    have hi : i = L.length := by omega
    subst hi
    rw [List.drop_length] at h
    refine Ev.step (fun k => ?_) h
    simp only [impl_FirstFinish.l1]
    rw [if_neg (by omega), wn]
  | succ m ih =>
    intro i him h
    have hi : i < L.length := by omega
    have hd := hL L[i] (List.getElem_mem hi)
    have ed : rd_T43 L (i : Int) = L[i] := by unfold rd_T43; simp [List.getD, hi]
    rw [List.drop_eq_getElem_cons hi] at h
    generalize L[i] = d at h hd ed
    have hw : wrap64 (d.f0 * d.f1) = sc d := wrap_id (by unfold sc at hd; omega) (by unfold sc at hd; omega)
    have hi1 : wrap64 ((i : Int) + 1) = ((i + 1 : Nat) : Int) := by rw [wrap_id (by omega) (by omega)]; rfl
    have hgo := ih (i + 1) (by omega)
    have c1 : ((i : Int) < (L.length : Int)) = True := eq_true (by omega)
    have c2 : (0 ≤ (i : Int)) = True := eq_true (by omega)
    have c3 : (acc.length < 8796093022208) = True := eq_true (by omega)
    have hdd : (⟨d.f0, d.f1⟩ : S43) = d := rfl
    by_cases hp : pI (n + 1) left d = true
    · have hle := pI_le hp
      have ws : wrap64 ((left : Int) - sc d) = (((left : Int) - sc d).toNat : Int) := by rw [wrap_id (by omega) (by omega)]; omega
      rw [List.find?_cons_of_pos hp] at h
      refine Ev.step (fun k => ?_) h
      unfold pI at hp
      by_cases cn : n + 1 > 1
      · rw [if_pos cn, Bool.and_eq_true] at hp
        have q1 := of_decide_eq_true hp.1
        have q2 : tB ((left : Int) - sc d).toNat = n + 1 := Nat.eq_of_beq_eq_true hp.2
        have c4 : (((n + 1 : Nat) : Int) > 1) = True := eq_true (by omega)
        have c5 : (sc d < (left : Int)) = True := eq_true q1
        have c6 : (0 ≤ (((left : Int) - sc d).toNat : Int)) = True := eq_true (by omega)
        have c7 : ((((left : Int) - sc d).toNat : Int) < ((fewL true).length : Int)) = True := eq_true (by rw [fewL_len]; omega)
        have c8 : rd (fewL true) (((left : Int) - sc d).toNat : Int) = (n : Int) := by rw [rd_fewL _ (by omega), q2]; omega
        simp only [impl_FirstFinish.l1, c1, c2, c3, if_true, ed, impl_Dart_score.f, Option.bind_some, hw, c4, c5, ws, c6, c7, c8, wn, hdd]
      · rw [if_neg cn, Bool.and_eq_true, Bool.and_eq_true] at hp
        have q1 := of_decide_eq_true hp.2.1
        have q2 := of_decide_eq_true hp.2.2
        have c4 : (((n + 1 : Nat) : Int) > 1) = False := eq_false (by omega)
        have c5 : (((n + 1 : Nat) : Int) = 1) = True := eq_true (by omega)
        have c6 : (sc d = (left : Int)) = True := eq_true q1
        have c7 : (d.f1 = 2) = True := eq_true q2
        simp only [impl_FirstFinish.l1, c1, c2, c3, if_true, if_false, ed, impl_Dart_score.f, Option.bind_some, hw, c4, c5, ws, c6, c7, wn, hdd]
    · rw [List.find?_cons_of_neg hp] at h
      have h2 := hgo h
      rw [← hi1] at h2
      refine Ev.step (fun k => ?_) h2
      unfold pI at hp
      by_cases cn : n + 1 > 1
      · rw [if_pos cn, Bool.and_eq_true] at hp
        have c4 : (((n + 1 : Nat) : Int) > 1) = True := eq_true (by omega)
        have c9 : (((n + 1 : Nat) : Int) = 1) = False := eq_false (by omega)
        by_cases q1 : sc d < (left : Int)
        · have ws : wrap64 ((left : Int) - sc d) = (((left : Int) - sc d).toNat : Int) := by rw [wrap_id (by omega) (by omega)]; omega
          have c5 : (sc d < (left : Int)) = True := eq_true q1
          have c6 : (0 ≤ (((left : Int) - sc d).toNat : Int)) = True := eq_true (by omega)
          have c7 : ((((left : Int) - sc d).toNat : Int) < ((fewL true).length : Int)) = True := eq_true (by rw [fewL_len]; omega)
          have c8 : (rd (fewL true) (((left : Int) - sc d).toNat : Int) = (n : Int)) = False := eq_false fun e => hp ⟨decide_eq_true q1, by
            rw [rd_fewL _ (by omega)] at e
            rw [show tB ((left : Int) - sc d).toNat = n + 1 by omega]
            exact Nat.beq_refl _⟩
          simp only [impl_FirstFinish.l1, c1, c2, if_true, if_false, ed, impl_Dart_score.f, Option.bind_some, hw, c4, c5, ws, c6, c7, c8, wn, c9]
        · have c5 : (sc d < (left : Int)) = False := eq_false q1
          simp only [impl_FirstFinish.l1, c1, c2, if_true, if_false, ed, impl_Dart_score.f, Option.bind_some, hw, c4, c5, c9]
      · rw [if_neg cn, Bool.and_eq_true, Bool.and_eq_true] at hp
        have c4 : (((n + 1 : Nat) : Int) > 1) = False := eq_false (by omega)
        have c5 : (((n + 1 : Nat) : Int) = 1) = True := eq_true (by omega)
        by_cases q1 : sc d = (left : Int)
        · have c6 : (sc d = (left : Int)) = True := eq_true q1
          have c7 : (d.f1 = 2) = False := eq_false fun e => hp ⟨decide_eq_true (by omega), decide_eq_true q1, decide_eq_true e⟩
          simp only [impl_FirstFinish.l1, c1, c2, if_true, if_false, ed, impl_Dart_score.f, Option.bind_some, hw, c4, c5, c6, c7]
        · have c6 : (sc d = (left : Int)) = False := eq_false q1
          simp only [impl_FirstFinish.l1, c1, c2, if_true, if_false, ed, impl_Dart_score.f, Option.bind_some, hw, c4, c5, c6]
theorem ff_l0 : ∀ (n left : Nat), n ≤ 20 → left ≤ 1001 → ∀ acc : List S43, acc.length + n ≤ 1000 → Ev (fun k => impl_FirstFinish.l0 k (left : Int) (fewL true) acc (n : Int)) (acc ++ fI n left, true) := by
  intro n
  induction n with
  | zero =>
    intro left _ _ acc _
    refine ev_some fun k => ?_
    simp only [impl_FirstFinish.l0]
    rw [if_neg (by omega)]
    show some (acc, true) = some (acc ++ [], true)
    rw [List.append_nil]
  | succ n ih =>
    intro left hn hleft acc ha
    have h := ff_l1 n left (by omega) hleft acc (by omega) boardL brd_ok (by rw [brd_len]; omega) (acc ++ fI (n + 1) left, true) 62 0 (by rw [brd_len]) (by
      rw [List.drop_zero]
      cases e : boardL.find? (pI (n + 1) left) with
      | some d =>
        have e2 : fI (n + 1) left = d :: fI n ((left : Int) - sc d).toNat := by
          show (match boardL.find? (pI (n + 1) left) with | some d => d :: fI n ((left : Int) - sc d).toNat | none => fI n left) = _
          rw [e]
        have hle := pI_le (List.find?_some e)
        have hb := brd_ok d (List.mem_of_find?_eq_some e)
        have h3 := ih ((left : Int) - sc d).toNat (by omega) (by omega) (acc ++ [d]) (by rw [List.length_append, List.length_singleton]; omega)
        rw [List.append_assoc, List.singleton_append, ← e2] at h3
        exact h3
      | none =>
        have e2 : fI (n + 1) left = fI n left := by
          show (match boardL.find? (pI (n + 1) left) with | some d => d :: fI n ((left : Int) - sc d).toNat | none => fI n left) = _
          rw [e]
        rw [e2]
        exact ih left (by omega) hleft acc (by omega))
    refine Ev.step (fun k => ?_) h
    simp only [impl_FirstFinish.l0, impl_board.f, Option.bind_some]
    rw [if_pos (by omega)]
    rfl
theorem iff_ev (n K : Nat) (hn : n ≤ 1001) (h1 : 1 ≤ K) (hK : K ≤ 3) : Ev (fun k => impl_FirstFinish.f k (n : Int) (K : Int)) (if canN K n = true then (fI (tB n - 1) n, true) else ([], false)) := by
  by_cases c : canN K n = true
  · rw [if_pos c]
    have hb := (canN_iff K n).1 c
    have h := ff_l0 (tB n - 1) n (by omega) hn [] (by simp; omega)
    rw [List.nil_append] at h
    have e : rd (fewL true) (n : Int) = ((tB n - 1 : Nat) : Int) := by rw [rd_fewL n (by omega)]; omega
    have h2 : Ev (fun k => impl_FirstFinish.j0 k (n : Int) false) (fI (tB n - 1) n, true) := Ev.step (fun k => by
      simp only [impl_FirstFinish.j0, impl_fewest.f, Option.bind_some]
      rw [if_neg (by decide), if_pos (by omega), if_pos (by rw [fewL_len]; omega), e]) h
    refine Ev.congr (fun k => ?_) h2
    unfold impl_FirstFinish.f
    rw [can_eq n K (by omega) h1 hK, Option.bind_some, if_pos rfl, c]
    rfl
  · rw [if_neg c]
    have e : canN K n = false := by simpa using c
    have h2 : Ev (fun k => impl_FirstFinish.j0 k (n : Int) true) (([] : List S43), false) := ev_some fun k => by
      simp only [impl_FirstFinish.j0]
      rw [if_pos True.intro]
    refine Ev.congr (fun k => ?_) h2
    unfold impl_FirstFinish.f
    rw [can_eq n K (by omega) h1 hK, Option.bind_some, if_pos rfl, e]
    rfl
def pS (n left : Nat) (d : S43) : Bool := match n with
  | 0 => decide (sc d = left) && decide (d.f1 = 2)
  | n + 1 => decide (sc d < left) && Nat.blt 0 (cF n ((left : Int) - sc d).toNat)
def fS : Nat → Nat → List S43
  | 0, left => match boardL.find? (pS 0 left) with
    | some d => [d]
    | none => []
  | n + 1, left => match boardL.find? (pS (n + 1) left) with
    | some d => d :: fS n ((left : Int) - sc d).toNat
    | none => []
theorem fS_len : ∀ n left, (fS n left).length ≤ n + 1
  | 0, left => by
    unfold fS
    split
    · simp
    · simp
  | n + 1, left => by
    unfold fS
    split
    · rw [List.length_cons]
      have := fS_len n ‹_›
      have := fS_len n (((left : Int) - sc ‹S43›).toNat)
      omega
    · simp
def tlS (n left : Nat) (d : S43) : List S43 := match n with
  | 0 => [d]
  | n + 1 => d :: fS n ((left : Int) - sc d).toNat
theorem sf_l0 (n left : Nat) (hn : n ≤ 2) (hleft : left ≤ 1001) (L : List S43) (hL : ∀ d ∈ L, 1 ≤ sc d ∧ sc d ≤ 60) (hl : L.length ≤ 100)
    (hrec : ∀ m, n = m + 1 → ∀ l2 : Nat, l2 ≤ 1001 → Ev (fun k => spec_daFirst.f k (l2 : Int) ((m + 1 : Nat) : Int)) (fS m l2)) : ∀ m i : Nat, i + m = L.length →
    Ev (fun k => spec_daFirst.l0 k (left : Int) ((n + 1 : Nat) : Int) L (L.length : Int) (i : Int)) (match (L.drop i).find? (pS n left) with
      | some d => tlS n left d
      | none => []) := by
  intro m
  induction m with
  | zero =>
    intro i him
    have hi : i = L.length := by omega
    subst hi
    rw [List.drop_length]
    refine ev_some fun k => ?_
    simp only [spec_daFirst.l0]
    rw [if_neg (by omega)]
    rfl
  | succ m ih =>
    intro i him
    have hi : i < L.length := by omega
    have hd := hL L[i] (List.getElem_mem hi)
    have ed : rd_T43 L (i : Int) = L[i] := by unfold rd_T43; simp [List.getD, hi]
    rw [List.drop_eq_getElem_cons hi]
    generalize L[i] = d at hd ed
    have hw : wrap64 (d.f0 * d.f1) = sc d := wrap_id (by unfold sc at hd; omega) (by unfold sc at hd; omega)
    have hi1 : wrap64 ((i : Int) + 1) = ((i + 1 : Nat) : Int) := by rw [wrap_id (by omega) (by omega)]; rfl
    have ws : wrap64 ((left : Int) - sc d) = (left : Int) - sc d := wrap_id (by omega) (by omega)
    have hgo := ih (i + 1) (by omega)
    rw [← hi1] at hgo
    have c1 : ((i : Int) < (L.length : Int)) = True := eq_true (by omega)
    have c2 : (0 ≤ (i : Int)) = True := eq_true (by omega)
    have wn : wrap64 (((n + 1 : Nat) : Int) - 1) = (n : Int) := by rw [wrap_id (by omega) (by omega)]; omega
    have e0 : ∀ k, spec_daFirst.l0 (k + 1) (left : Int) ((n + 1 : Nat) : Int) L (L.length : Int) (i : Int) = spec_daFirst.j1 k (left : Int) ((n + 1 : Nat) : Int) ((left : Int) - sc d) L (L.length : Int) (i : Int) (decide (n = 0) && (decide (sc d = left) && decide (d.f1 = 2))) d.f0 d.f1 := by
      intro k
      simp only [spec_daFirst.l0, c1, c2, if_true, ed, hw, ws]
      by_cases q0 : n = 0
      · subst q0
        rw [if_pos (by rfl)]
        by_cases q1 : sc d = (left : Int)
        · rw [if_pos (by omega), decide_eq_true q1]
          have : ((d.f1 == 2) : Bool) = (decide (0 = 0) && (true && decide (d.f1 = 2))) := by
            by_cases q2 : d.f1 = 2
            · simp [q2]
            · simp [q2]
          rw [this]
        · rw [if_neg (by omega), decide_eq_false q1]
          simp
      · rw [if_neg (by omega), decide_eq_false q0]
        simp
    cases n with
    | zero =>
      by_cases hp : pS 0 left d = true
      · rw [List.find?_cons_of_pos hp]
        have : (decide (0 = 0) && (decide (sc d = left) && decide (d.f1 = 2))) = true := by
          rw [decide_eq_true rfl, Bool.true_and]
          exact hp
        have e1 : ∀ k, spec_daFirst.l0 (k + 1) (left : Int) ((0 + 1 : Nat) : Int) L (L.length : Int) (i : Int) = spec_daFirst.j1 k (left : Int) ((0 + 1 : Nat) : Int) ((left : Int) - sc d) L (L.length : Int) (i : Int) true d.f0 d.f1 := fun k => by rw [e0 k, this]
        refine Ev.step e1 (ev_some fun k => ?_)
        simp only [spec_daFirst.j1]
        rw [if_pos True.intro]
        rfl
      · rw [List.find?_cons_of_neg hp]
        have : (decide (0 = 0) && (decide (sc d = left) && decide (d.f1 = 2))) = false := by
          rw [decide_eq_true rfl, Bool.true_and]
          exact Bool.eq_false_iff.2 hp
        have e1 : ∀ k, spec_daFirst.l0 (k + 1) (left : Int) ((0 + 1 : Nat) : Int) L (L.length : Int) (i : Int) = spec_daFirst.j1 k (left : Int) ((0 + 1 : Nat) : Int) ((left : Int) - sc d) L (L.length : Int) (i : Int) false d.f0 d.f1 := fun k => by rw [e0 k, this]
        refine Ev.step e1 (Ev.step (fun k => ?_) hgo)
        simp only [spec_daFirst.j1]
        rw [if_neg (by decide), if_neg (by omega)]
    | succ n' =>
      have hz : (decide (n' + 1 = 0) && (decide (sc d = left) && decide (d.f1 = 2))) = false := by
        rw [decide_eq_false (by omega)]
        rfl
      have c4 : (((n' + 1 + 1 : Nat) : Int) > 1) = True := eq_true (by omega)
      by_cases hp : pS (n' + 1) left d = true
      · have hp2 := hp
        rw [List.find?_cons_of_pos hp]
        change (decide (sc d < left) && Nat.blt 0 (cF n' ((left : Int) - sc d).toNat)) = true at hp2
        rw [Bool.and_eq_true] at hp2
        have q1 := of_decide_eq_true hp2.1
        have q2 : 0 < cF n' ((left : Int) - sc d).toNat := Nat.le_of_ble_eq_true hp2.2
        obtain ⟨l2, hl2⟩ : ∃ l2 : Nat, ((left : Int) - sc d) = (l2 : Int) := ⟨((left : Int) - sc d).toNat, by omega⟩
        rw [hl2, Int.toNat_natCast] at q2
        rw [hl2] at e0
        show Ev _ (d :: fS n' ((left : Int) - sc d).toNat)
        rw [hl2, Int.toNat_natCast]
        have h1 := daFinishes_ev l2 n' (by omega) (by omega)
        rw [cF_w (by omega)] at h1
        have h2 := hrec n' rfl l2 (by omega)
        have hlen := fS_len n' l2
        have h4 : Ev (fun k => (spec_daFinishes.f k (l2 : Int) ((n' + 1 : Nat) : Int)).bind fun t230 => (if t230 > 0 then ((some ([d] : List S43)).bind fun y231 => ((spec_daFirst.f k (l2 : Int) ((n' + 1 : Nat) : Int)).bind fun t234 => (if y231.length + t234.length < 8796093022208 then (some (y231 ++ t234)) else (none)))) else (spec_daFirst.l0 k (left : Int) ((n' + 1 + 1 : Nat) : Int) L (L.length : Int) (wrap64 ((i : Int) + 1))))) (d :: fS n' l2) := by
          refine Ev.bind h1 (Ev.congr (fun k => by rw [if_pos (by omega), Option.bind_some]) ?_)
          exact Ev.bind h2 (Ev.congr (fun k => by rw [if_pos (by rw [List.length_singleton]; omega)]; rfl) (Ev.now _))
        refine Ev.step e0 (Ev.step (fun k => ?_) h4)
        have c5 : ((l2 : Int) > 0) = True := eq_true (by omega)
        simp only [spec_daFirst.j1, hz, c4, c5, if_false, if_true, Bool.false_eq_true, wn]
      · rw [List.find?_cons_of_neg hp]
        change ¬ (decide (sc d < left) && Nat.blt 0 (cF n' ((left : Int) - sc d).toNat)) = true at hp
        rw [Bool.and_eq_true] at hp
        by_cases q1 : sc d < (left : Int)
        · obtain ⟨l2, hl2⟩ : ∃ l2 : Nat, ((left : Int) - sc d) = (l2 : Int) := ⟨((left : Int) - sc d).toNat, by omega⟩
          have q2 : ¬ 0 < cF n' l2 := fun h => hp ⟨decide_eq_true q1, by rw [hl2, Int.toNat_natCast]; exact blt_t h⟩
          rw [hl2] at e0
          have h1 := daFinishes_ev l2 n' (by omega) (by omega)
          rw [cF_w (by omega)] at h1
          have h4 : Ev (fun k => (spec_daFinishes.f k (l2 : Int) ((n' + 1 : Nat) : Int)).bind fun t230 => (if t230 > 0 then ((some ([d] : List S43)).bind fun y231 => ((spec_daFirst.f k (l2 : Int) ((n' + 1 : Nat) : Int)).bind fun t234 => (if y231.length + t234.length < 8796093022208 then (some (y231 ++ t234)) else (none)))) else (spec_daFirst.l0 k (left : Int) ((n' + 1 + 1 : Nat) : Int) L (L.length : Int) (wrap64 ((i : Int) + 1))))) _ :=
            Ev.bind h1 (Ev.congr (fun k => by rw [if_neg (by omega)]) hgo)
          refine Ev.step e0 (Ev.step (fun k => ?_) h4)
          have c5 : ((l2 : Int) > 0) = True := eq_true (by omega)
          simp only [spec_daFirst.j1, hz, c4, c5, if_false, if_true, Bool.false_eq_true, wn]
        · have c5 : (((left : Int) - sc d) > 0) = False := eq_false (by omega)
          refine Ev.step e0 (Ev.step (fun k => ?_) hgo)
          simp only [spec_daFirst.j1, hz, c4, c5, if_false, if_true, Bool.false_eq_true]
theorem daFirst_ev : ∀ (n left : Nat), n ≤ 2 → left ≤ 1001 → Ev (fun k => spec_daFirst.f k (left : Int) ((n + 1 : Nat) : Int)) (fS n left) := by
  intro n
  induction n with
  | zero =>
    intro left hn hleft
    have h := sf_l0 0 left hn hleft boardL brd_ok (by rw [brd_len]; omega) (fun m hm => by omega) 62 0 (by rw [brd_len])
    rw [List.drop_zero] at h
    have h2 : Ev (fun k => (spec_daAll.f k).bind fun t222 => (spec_daFirst.l0 k (left : Int) ((0 + 1 : Nat) : Int) t222 (t222.length : Int) 0)) (fS 0 left) := Ev.bind daAll_ev h
    exact Ev.step (fun k => by simp only [spec_daFirst.f]) h2
  | succ n ih =>
    intro left hn hleft
    have h := sf_l0 (n + 1) left hn hleft boardL brd_ok (by rw [brd_len]; omega) (fun m hm l2 hl2 => by
      obtain rfl : n = m := by omega
      exact ih l2 (by omega) hl2) 62 0 (by rw [brd_len])
    rw [List.drop_zero] at h
    have h2 : Ev (fun k => (spec_daAll.f k).bind fun t222 => (spec_daFirst.l0 k (left : Int) ((n + 1 + 1 : Nat) : Int) t222 (t222.length : Int) 0)) (fS (n + 1) left) := Ev.bind daAll_ev h
    exact Ev.step (fun k => by simp only [spec_daFirst.f]) h2
theorem sff_l0 (n K few : Nat) (hn : n ≤ 1001) (hK : K ≤ 3) (hf : few < K) (hp : 0 < cF few n) (hz : ∀ y, y < few → cF y n = 0) : ∀ m x : Nat, x + m = few → Ev (fun k => spec_FirstFinish.l0 k (n : Int) (K : Int) ((x + 1 : Nat) : Int)) (fS few n, true) := by
  intro m
  induction m with
  | zero =>
    intro x hx
    have hx : x = few := by omega
    subst hx
    have h1 := daFinishes_ev n x (by omega) hn
    rw [cF_w (by omega)] at h1
    have h2 : Ev (fun k => (spec_daFinishes.f k (n : Int) ((x + 1 : Nat) : Int)).bind fun t242 => (if t242 > 0 then ((spec_daFirst.f k (n : Int) ((x + 1 : Nat) : Int)).bind fun t243 => (some (t243, true))) else (spec_FirstFinish.l0 k (n : Int) (K : Int) (wrap64 (((x + 1 : Nat) : Int) + 1))))) (fS x n, true) := Ev.bind h1 (Ev.congr (fun k => by rw [if_pos (by omega)]) (Ev.bind (daFirst_ev x n (by omega) hn) (Ev.now _)))
    refine Ev.step (fun k => ?_) h2
    simp only [spec_FirstFinish.l0]
    rw [if_pos (by omega)]
  | succ m ih =>
    intro x hx
    have h1 := daFinishes_ev n x (by omega) hn
    rw [cF_w (by omega), hz x (by omega)] at h1
    have w1 : wrap64 (((x + 1 : Nat) : Int) + 1) = ((x + 1 + 1 : Nat) : Int) := by rw [wrap_id (by omega) (by omega)]; omega
    have h2 : Ev (fun k => (spec_daFinishes.f k (n : Int) ((x + 1 : Nat) : Int)).bind fun t242 => (if t242 > 0 then ((spec_daFirst.f k (n : Int) ((x + 1 : Nat) : Int)).bind fun t243 => (some (t243, true))) else (spec_FirstFinish.l0 k (n : Int) (K : Int) (wrap64 (((x + 1 : Nat) : Int) + 1))))) (fS few n, true) := Ev.bind h1 (Ev.congr (fun k => by rw [if_neg (by omega), w1]) (ih (x + 1) (by omega)))
    refine Ev.step (fun k => ?_) h2
    simp only [spec_FirstFinish.l0]
    rw [if_pos (by omega)]
theorem sff_no (n K : Nat) (hn : n ≤ 1001) (hK : K ≤ 3) (hz : ∀ y, y < K → cF y n = 0) : ∀ m x : Nat, x + m = K → Ev (fun k => spec_FirstFinish.l0 k (n : Int) (K : Int) ((x + 1 : Nat) : Int)) ([], false) := by
  intro m
  induction m with
  | zero =>
    intro x hx
    refine ev_some fun k => ?_
    simp only [spec_FirstFinish.l0]
    rw [if_neg (by omega)]
  | succ m ih =>
    intro x hx
    have h1 := daFinishes_ev n x (by omega) hn
    rw [cF_w (by omega), hz x (by omega)] at h1
    have w1 : wrap64 (((x + 1 : Nat) : Int) + 1) = ((x + 1 + 1 : Nat) : Int) := by rw [wrap_id (by omega) (by omega)]; omega
    have h2 : Ev (fun k => (spec_daFinishes.f k (n : Int) ((x + 1 : Nat) : Int)).bind fun t242 => (if t242 > 0 then ((spec_daFirst.f k (n : Int) ((x + 1 : Nat) : Int)).bind fun t243 => (some (t243, true))) else (spec_FirstFinish.l0 k (n : Int) (K : Int) (wrap64 (((x + 1 : Nat) : Int) + 1))))) ([], false) := Ev.bind h1 (Ev.congr (fun k => by rw [if_neg (by omega), w1]) (ih (x + 1) (by omega)))
    refine Ev.step (fun k => ?_) h2
    simp only [spec_FirstFinish.l0]
    rw [if_pos (by omega)]
theorem sff_ev (n K : Nat) (hn : n ≤ 1001) (h1 : 1 ≤ K) (hK : K ≤ 3) (r : List S43 × Bool) (h : Ev (fun k => spec_FirstFinish.l0 k (n : Int) (K : Int) ((0 + 1 : Nat) : Int)) r) : Ev (fun k => spec_FirstFinish.f k (n : Int) (K : Int)) r := by
  have h2 : Ev (fun k => spec_FirstFinish.j0 k (n : Int) (K : Int) false) r := Ev.step (fun k => by
    simp only [spec_FirstFinish.j0]
    rw [if_neg (by decide)]
    rfl) h
  refine Ev.congr (fun k => ?_) h2
  unfold spec_FirstFinish.f
  rw [daLeft_eq, Option.bind_some, if_pos (decide_eq_true (by omega)), daDarts_eq, Option.bind_some, decide_eq_true (by omega)]
  rfl
end Go.Proofs.Ytacmfgbeaoalfaa.Pure
