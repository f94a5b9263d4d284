/- What the printed functions of FnExactAddResult compute answers true, at every argument of its types. No condition beside the types' own bounds. -/
import Derived.Test.YtolcneiniojdfaaQFnExactAddResultx
namespace Go.Proofs.Ytolcneiniojdfaa.Pure
open Go.RowKit Go.Proofs.Ytolcneiniojdfaa.QFnExactAddResult Go.Proofs.YtolcneiniojdfaaW.PrintWords Go.Proofs.YtolcneiniojdfaaW.PrintLast Go.Proofs.YtolcneiniojdfaaW.PrintMore
set_option linter.unusedVariables false
set_option linter.unusedSimpArgs false
set_option linter.unusedSectionVars false

theorem ev_some {α : Type} {g : Nat → Option α} {r : α} (h : ∀ k, g (k + 1) = some r) : Ev g r := Ev.step h (Ev.now r)
theorem ev_const {α : Type} {g : Nat → Option α} {r : α} (h : ∀ k, g k = some r) : Ev g r := ⟨0, fun k _ => h k⟩
theorem wrap_id {i : Int} (h0 : -9223372036854775808 ≤ i) (h1 : i ≤ 9223372036854775807) : wrap64 i = i := by unfold wrap64; omega
theorem l1In_eq (a b c : Int) : spec_l1In.f a b c = some (decide (b ≤ a ∧ a ≤ c)) := by
  unfold spec_l1In.f
  by_cases h : a ≥ b
  · rw [if_pos h]
    have h2 : b ≤ a := h
    simp [h2]
  · rw [if_neg h]
    have h2 : ¬ b ≤ a := h
    simp [h2]
def conv (s : S48) : S51 := ⟨s.f0, s.f1, s.f2, s.f3⟩
theorem rdA (l : List S48) (n : Nat) (h : n < l.length) : rd_T48 l (n : Int) = l[n] := by
  unfold rd_T48
  simp [List.getD_eq_getElem?_getD, List.getElem?_eq_getElem h]
theorem rdB (l : List S51) (n : Nat) (h : n < l.length) : rd_T51 l (n : Int) = l[n] := by
  unfold rd_T51
  simp [List.getD_eq_getElem?_getD, List.getElem?_eq_getElem h]

theorem szLeague_eq (a b : Int) (l : List S48) (hl : l.length ≤ 9223372036854775807) : ∃ t, laws_szLeague.f a b l 1048576 = some t ∧ (t < 0 ∨ l.length ≤ 1048576) := by
  unfold laws_szLeague.f laws_szResultS.f
  by_cases h : wrap64 (1048576 - (l.length : Int)) < 0
  · refine ⟨-1, ?_, Or.inl (by omega)⟩
    rw [if_pos h]
    rfl
  · refine ⟨wrap64 (1048576 - (l.length : Int)), ?_, Or.inr ?_⟩
    · rw [if_neg h]
      simp only [Option.bind_some]
      rw [if_neg h]
    · unfold wrap64 at h
      omega

theorem toResultS_l0 (l : List S48) (hl : l.length ≤ 1048576) (d : Nat) : ∀ (i : Nat) (x : List S51), i + d = l.length → x.length = l.length → (∀ j, j < i → x[j]? = (l.map conv)[j]?) → Ev (fun k => laws_toResultS.l0 k l x (i : Int)) (l.map conv) := by
  induction d with
  | zero =>
    intro i x hi hx hp
    refine ev_some fun k => ?_
    simp only [laws_toResultS.l0]
    rw [if_neg (by omega)]
    congr 1
    apply List.ext_getElem?
    intro j
    by_cases hj : j < i
    · exact hp j hj
    · rw [List.getElem?_eq_none (by omega), List.getElem?_eq_none (by simp; omega)]
  | succ d ih =>
    intro i x hi hx hp
    have hlt : i < l.length := by omega
    refine Ev.step (f := fun k => laws_toResultS.l0 k l (x.set i (conv l[i])) ((i + 1 : Nat) : Int)) (fun k => ?_) (ih (i + 1) (x.set i (conv l[i])) (by omega) (by rw [List.length_set]; exact hx) ?_)
    · simp only [laws_toResultS.l0]
      rw [if_pos (by omega), if_pos (by omega), rdA l i hlt]
      simp only [laws_toResult.f, Option.bind_some]
      rw [if_pos (by omega), wrap_id (by omega) (by omega), Int.toNat_natCast]
      rfl
    · intro j hj
      by_cases e : j = i
      · subst e
        rw [List.getElem?_set_self (by omega)]
        simp [hlt]
      · rw [List.getElem?_set_ne (by omega)]
        exact hp j (by omega)
theorem toResultS_ev (l : List S48) (hl : l.length ≤ 1048576) : Ev (fun k => laws_toResultS.f k l) (l.map conv) := by
  refine Ev.congr (f := fun k => laws_toResultS.l0 k l (List.replicate l.length z51) ((0 : Nat) : Int)) (fun k => ?_) (toResultS_l0 l hl l.length 0 (List.replicate l.length z51) (by omega) List.length_replicate (fun j hj => by omega))
  unfold laws_toResultS.f
  rw [if_pos (by omega), if_pos (by omega)]
  simp
theorem toLeague_ev (a b : Int) (l : List S48) (hl : l.length ≤ 1048576) : Ev (fun k => laws_toLeague.f k a b l) (a, b, l.map conv) := by
  unfold laws_toLeague.f
  exact Ev.bind (f := fun _ t => some (a, b, t)) (toResultS_ev l hl) (Ev.now _)

theorem eqResultS_l0 (L : List S51) (hl : L.length ≤ 1048576) (d : Nat) : ∀ i : Nat, i + d = L.length → Ev (fun k => laws_eqResultS.l0 k L L (i : Int)) true := by
  induction d with
  | zero =>
    intro i hi
    refine ev_some fun k => ?_
    simp only [laws_eqResultS.l0]
    rw [if_neg (by omega)]
  | succ d ih =>
    intro i hi
    refine Ev.step (f := fun k => laws_eqResultS.l0 k L L ((i + 1 : Nat) : Int)) (fun k => ?_) (ih (i + 1) (by omega))
    simp only [laws_eqResultS.l0]
    rw [if_pos (by omega), if_pos (by omega), if_pos (by omega)]
    have e : ∀ a b c d : Int, laws_eqResult.f a b c d a b c d = some true := fun a b c d => by simp [laws_eqResult.f]
    rw [e, wrap_id (by omega) (by omega)]
    rfl
theorem eqResultS_ev (L : List S51) (hl : L.length ≤ 1048576) : Ev (fun k => laws_eqResultS.f k L L) true := by
  refine Ev.congr (f := fun k => laws_eqResultS.l0 k L L ((0 : Nat) : Int)) (fun k => ?_) (eqResultS_l0 L hl L.length 0 (by omega))
  unfold laws_eqResultS.f
  rw [if_pos rfl]
  rfl
theorem eqLeague_ev (a b : Int) (L : List S51) (hl : L.length ≤ 1048576) : Ev (fun k => laws_eqLeague.f k a b L a b L) true := by
  refine Ev.congr (f := fun k => (laws_eqResultS.f k L L).bind fun t => if t = true then some true else some false) (fun k => ?_) (Ev.bind (f := fun _ t => if t = true then some true else some false) (eqResultS_ev L hl) (Ev.now _))
  unfold laws_eqLeague.f
  rw [if_pos rfl, if_pos rfl]

/-! what a good league is -/
def okR (T : Int) (r : S51) : Bool := decide (0 ≤ r.f0 ∧ r.f0 ≤ T - 1) && (decide (0 ≤ r.f1 ∧ r.f1 ≤ T - 1) && (!decide (r.f0 = r.f1) && (decide (0 ≤ r.f2 ∧ r.f2 ≤ 20) && decide (0 ≤ r.f3 ∧ r.f3 ≤ 20))))
def seenB (L : List S51) (i : Nat) (x y : Int) : Bool := (L.take i).any fun s => decide (s.f0 = x ∧ s.f1 = y)
def goodFrom (T : Int) (L : List S51) : Nat → Nat → Bool
  | _, 0 => true
  | i, d + 1 => okR T (L.getD i z51) && (!seenB L i (L.getD i z51).f0 (L.getD i z51).f1 && goodFrom T L (i + 1) d)
def goodB (a b : Int) (L : List S51) : Bool := decide (2 ≤ a ∧ a ≤ 8) && (decide (2 ≤ b ∧ b ≤ 3) && (!decide ((L.length : Int) > 56) && goodFrom a L 0 L.length))

theorem lgResult_eq (T : Int) (hT : 2 ≤ T ∧ T ≤ 8) (r : S51) : spec_lgResult.f T r.f0 r.f1 r.f2 r.f3 = some (okR T r) := by
  unfold spec_lgResult.f okR
  simp only [l1In_eq, wrap_id (i := T - 1) (by omega) (by omega), Option.bind_some]
  by_cases h2 : r.f0 = r.f1
  · cases decide (0 ≤ r.f0 ∧ r.f0 ≤ T - 1) <;> cases decide (0 ≤ r.f1 ∧ r.f1 ≤ T - 1) <;> cases decide (0 ≤ r.f2 ∧ r.f2 ≤ 20) <;> cases decide (0 ≤ r.f3 ∧ r.f3 ≤ 20) <;> simp [h2]
  · cases decide (0 ≤ r.f0 ∧ r.f0 ≤ T - 1) <;> cases decide (0 ≤ r.f1 ∧ r.f1 ≤ T - 1) <;> cases decide (0 ≤ r.f2 ∧ r.f2 ≤ 20) <;> cases decide (0 ≤ r.f3 ∧ r.f3 ≤ 20) <;> simp [h2]

theorem lgGood_l1 (L : List S51) (n a b : Int) (i : Nat) (hi : i < 1048576) (y : List S51) (x0 x1 x2 x3 : Int) (res : Bool) (hy : y.length ≤ 1048576) (hk : Ev (fun k => spec_lgGood.l0 k L n ((i + 1 : Nat) : Int) a b L) res) (d : Nat) :
    ∀ j : Nat, j + d = y.length → Ev (fun k => spec_lgGood.l1 k L n (i : Int) y (y.length : Int) (j : Int) a b L x0 x1 x2 x3) (!(y.drop j).any (fun s => decide (s.f0 = x0 ∧ s.f1 = x1)) && res) := by
  induction d with
  | zero =>
    intro j hj
    rw [List.drop_eq_nil_of_le (by omega)]
    simp only [List.any_nil, Bool.not_false, Bool.true_and]
    refine Ev.step (f := fun k => spec_lgGood.l0 k L n ((i + 1 : Nat) : Int) a b L) (fun k => ?_) hk
    simp only [spec_lgGood.l1]
    rw [if_neg (by omega), wrap_id (by omega) (by omega)]
    rfl
  | succ d ih =>
    intro j hj
    have hlt : j < y.length := by omega
    rw [List.drop_eq_getElem_cons hlt, List.any_cons]
    by_cases e : y[j].f0 = x0 ∧ y[j].f1 = x1
    · simp only [e, and_self, decide_true, Bool.true_or, Bool.not_true, Bool.false_and]
      refine ev_some fun k => ?_
      simp only [spec_lgGood.l1]
      rw [if_pos (by omega), if_pos (by omega), if_pos (by omega), rdB y j hlt, if_pos e.1, if_pos e.2]
    · simp only [e, decide_false, Bool.false_or]
      refine Ev.step (f := fun k => spec_lgGood.l1 k L n (i : Int) y (y.length : Int) ((j + 1 : Nat) : Int) a b L x0 x1 x2 x3) (fun k => ?_) (ih (j + 1) (by omega))
      simp only [spec_lgGood.l1]
      rw [if_pos (by omega), if_pos (by omega), if_pos (by omega), rdB y j hlt, wrap_id (by omega) (by omega)]
      by_cases e0 : y[j].f0 = x0
      · rw [if_pos e0, if_neg (fun e1 => e ⟨e0, e1⟩)]
        rfl
      · rw [if_neg e0]
        rfl

theorem lgGood_l0 (L : List S51) (a b : Int) (ha : 2 ≤ a ∧ a ≤ 8) (hl : L.length ≤ 1048576) (d : Nat) : ∀ i : Nat, i + d = L.length → Ev (fun k => spec_lgGood.l0 k L (L.length : Int) (i : Int) a b L) (goodFrom a L i d) := by
  induction d with
  | zero =>
    intro i hi
    refine ev_some fun k => ?_
    simp only [spec_lgGood.l0]
    rw [if_neg (by omega)]
    rfl
  | succ d ih =>
    intro i hi
    have hlt : i < L.length := by omega
    have eg : L.getD i z51 = L[i] := by simp [List.getD_eq_getElem?_getD, List.getElem?_eq_getElem hlt]
    unfold goodFrom
    rw [eg]
    have hmain : ∀ k, spec_lgGood.l0 (k + 1) L (L.length : Int) (i : Int) a b L = (if okR a L[i] = true then (spec_lgGood.l1 k L (L.length : Int) (i : Int) (L.take i) ((L.take i).length : Int) ((0 : Nat) : Int) a b L L[i].f0 L[i].f1 L[i].f2 L[i].f3) else some false) := by
      intro k
      simp only [spec_lgGood.l0]
      rw [if_pos (by omega), if_pos (by omega), if_pos (by omega), rdB L i hlt, lgResult_eq a ha]
      simp only [Option.bind_some]
      rw [if_pos (show (i : Int) ≤ (L.length : Int) by omega), Int.toNat_natCast]
      rfl
    by_cases hok : okR a L[i] = true
    · rw [hok]
      have hi2 := lgGood_l1 L (L.length : Int) a b i (by omega) (L.take i) L[i].f0 L[i].f1 L[i].f2 L[i].f3 _ (by simp; omega) (ih (i + 1) (by omega)) (L.take i).length 0 (by omega)
      refine Ev.step (fun k => (hmain k).trans (by rw [if_pos hok])) ?_
      simpa [seenB] using hi2
    · rw [Bool.not_eq_true] at hok
      rw [hok]
      refine ev_some fun k => (hmain k).trans (by rw [hok]; rfl)

theorem lgGood_ev (a b : Int) (L : List S51) (hl : L.length ≤ 1048576) : Ev (fun k => spec_lgGood.f k a b L) (goodB a b L) := by
  unfold spec_lgGood.f goodB
  simp only [l1In_eq, Option.bind_some]
  have hj : ∀ x : Bool, 2 ≤ a ∧ a ≤ 8 → Ev (fun k => spec_lgGood.j0 k x a b L) (!x && goodFrom a L 0 L.length) := by
    intro x ha
    cases x
    · exact Ev.step (f := fun k => spec_lgGood.l0 k L (L.length : Int) ((0 : Nat) : Int) a b L) (fun k => by simp only [spec_lgGood.j0]; rw [if_neg (by simp)]; rfl) (by simpa using lgGood_l0 L a b ha hl L.length 0 (by omega))
    · exact ev_some fun k => by simp [spec_lgGood.j0]
  have hf : Ev (fun k => spec_lgGood.j0 k true a b L) false := ev_some fun k => by simp [spec_lgGood.j0]
  by_cases ha : 2 ≤ a ∧ a ≤ 8
  · by_cases hb : 2 ≤ b ∧ b ≤ 3
    · simp only [ha, hb, and_self, decide_true, if_true, Bool.true_and]
      exact hj _ ha
    · simp only [ha, hb, and_self, decide_true, if_true, decide_false, Bool.false_and, Bool.and_false]
      exact hf
  · simp only [ha, decide_false, Bool.false_and]
    exact hf

theorem g_within_eq (a b c : Int) : g_within.f a b c = some (decide (b ≤ a ∧ a ≤ c)) := by
  unfold g_within.f
  by_cases h : b ≤ a
  · rw [if_pos h]
    simp [h]
  · rw [if_neg h]
    simp [h]
theorem seenHas_eq (L : List S51) (i : Nat) (x y : Int) : seenHas.f L (i : Int) x y = some (seenB L i x y) := by
  unfold seenHas.f seenL seenB
  rw [Int.toNat_natCast]
  congr 1
  rw [Bool.eq_iff_iff]
  simp only [decide_eq_true_eq, List.mem_reverse, List.mem_map, List.any_eq_true, Prod.mk.injEq]
theorem isLeague_l0 (L : List S51) (a b : Int) (ha : 2 ≤ a ∧ a ≤ 8) (hl : L.length ≤ 1048576) (d : Nat) : ∀ i : Nat, i + d = L.length → Ev (fun k => impl_IsLeague.l0 k L (L.length : Int) (i : Int) a b L) (goodFrom a L i d) := by
  induction d with
  | zero =>
    intro i hi
    refine ev_some fun k => ?_
    simp only [impl_IsLeague.l0]
    rw [if_neg (by omega)]
    rfl
  | succ d ih =>
    intro i hi
    have hlt : i < L.length := by omega
    have eg : L.getD i z51 = L[i] := by simp [List.getD_eq_getElem?_getD, List.getElem?_eq_getElem hlt]
    unfold goodFrom okR
    rw [eg]
    have hstep : wrap64 ((i : Int) + 1) = ((i + 1 : Nat) : Int) := by rw [wrap_id (by omega) (by omega)]; rfl
    have hmain : ∀ k, impl_IsLeague.l0 (k + 1) L (L.length : Int) (i : Int) a b L = (if ((decide (0 ≤ L[i].f0 ∧ L[i].f0 ≤ a - 1) && (decide (0 ≤ L[i].f1 ∧ L[i].f1 ≤ a - 1) && (!decide (L[i].f0 = L[i].f1) && (decide (0 ≤ L[i].f2 ∧ L[i].f2 ≤ 20) && decide (0 ≤ L[i].f3 ∧ L[i].f3 ≤ 20))))) && !seenB L i L[i].f0 L[i].f1) = true then impl_IsLeague.l0 k L (L.length : Int) ((i + 1 : Nat) : Int) a b L else some false) := by
      intro k
      simp only [impl_IsLeague.l0]
      rw [if_pos (by omega), if_pos (by omega), if_pos (by omega), rdB L i hlt, hstep]
      simp only [g_within_eq, seenHas_eq, wrap_id (i := a - 1) (by omega) (by omega), Option.bind_some]
      by_cases h2 : L[i].f0 = L[i].f1
      · cases decide (0 ≤ L[i].f0 ∧ L[i].f0 ≤ a - 1) <;> cases decide (0 ≤ L[i].f1 ∧ L[i].f1 ≤ a - 1) <;> simp [h2]
      · cases decide (0 ≤ L[i].f0 ∧ L[i].f0 ≤ a - 1) <;> cases decide (0 ≤ L[i].f1 ∧ L[i].f1 ≤ a - 1) <;> cases decide (0 ≤ L[i].f2 ∧ L[i].f2 ≤ 20) <;> cases decide (0 ≤ L[i].f3 ∧ L[i].f3 ≤ 20) <;> cases seenB L i L[i].f0 L[i].f1 <;> simp [h2]
    rw [← Bool.and_assoc]
    revert hmain
    generalize ((decide (0 ≤ L[i].f0 ∧ L[i].f0 ≤ a - 1) && (decide (0 ≤ L[i].f1 ∧ L[i].f1 ≤ a - 1) && (!decide (L[i].f0 = L[i].f1) && (decide (0 ≤ L[i].f2 ∧ L[i].f2 ≤ 20) && decide (0 ≤ L[i].f3 ∧ L[i].f3 ≤ 20))))) && !seenB L i L[i].f0 L[i].f1) = c
    intro hmain
    cases c
    · exact ev_some fun k => by rw [hmain k]; simp
    · exact Ev.step (fun k => (hmain k).trans (by rw [if_pos rfl])) (by simpa using ih (i + 1) (by omega))
theorem isLeague_ev (a b : Int) (L : List S51) (hl : L.length ≤ 1048576) : Ev (fun k => impl_IsLeague.f k a b L) (goodB a b L) := by
  unfold impl_IsLeague.f goodB
  simp only [g_within_eq, Option.bind_some]
  have hj : ∀ x : Bool, 2 ≤ a ∧ a ≤ 8 → Ev (fun k => impl_IsLeague.j0 k x a b L) (!x && goodFrom a L 0 L.length) := by
    intro x ha
    cases x
    · exact Ev.step (f := fun k => impl_IsLeague.l0 k L (L.length : Int) ((0 : Nat) : Int) a b L) (fun k => by simp only [impl_IsLeague.j0]; rw [if_neg (by simp)]; rfl) (by simpa using isLeague_l0 L a b ha hl L.length 0 (by omega))
    · exact ev_some fun k => by simp [impl_IsLeague.j0]
  have hf : Ev (fun k => impl_IsLeague.j0 k true a b L) false := ev_some fun k => by simp [impl_IsLeague.j0]
  by_cases ha : 2 ≤ a ∧ a ≤ 8
  · by_cases hb : 2 ≤ b ∧ b ≤ 3
    · simp only [ha, hb, and_self, decide_true, if_true, Bool.true_and]
      exact hj _ ha
    · simp only [ha, hb, and_self, decide_true, if_true, decide_false, Bool.false_and, Bool.and_false]
      exact hf
  · simp only [ha, decide_false, Bool.false_and]
    exact hf

/-! what is known of a good league -/
theorem okR_of (T : Int) (L : List S51) (d : Nat) : ∀ i : Nat, i + d = L.length → goodFrom T L i d = true → ∀ j, i ≤ j → (h : j < L.length) → okR T L[j] = true := by
  induction d with
  | zero => intro i hi _ j h1 h; omega
  | succ d ih =>
    intro i hi hg j h1 h
    unfold goodFrom at hg
    simp only [Bool.and_eq_true] at hg
    by_cases e : j = i
    · subst e
      have eg : L.getD j z51 = L[j] := by simp [List.getD_eq_getElem?_getD, List.getElem?_eq_getElem h]
      rw [eg] at hg
      exact hg.1
    · exact ih (i + 1) (by omega) hg.2.2 j (by omega) h
structure Good (a b : Int) (L : List S51) : Prop where
  ha : 2 ≤ a ∧ a ≤ 8
  hb : 2 ≤ b ∧ b ≤ 3
  hl : L.length ≤ 56
  hr : ∀ j, (h : j < L.length) → (0 ≤ L[j].f0 ∧ L[j].f0 ≤ a - 1) ∧ (0 ≤ L[j].f1 ∧ L[j].f1 ≤ a - 1) ∧ ¬ L[j].f0 = L[j].f1 ∧ (0 ≤ L[j].f2 ∧ L[j].f2 ≤ 20) ∧ (0 ≤ L[j].f3 ∧ L[j].f3 ≤ 20)
theorem good_of {a b : Int} {L : List S51} (h : goodB a b L = true) : Good a b L := by
  unfold goodB at h
  simp only [Bool.and_eq_true, decide_eq_true_eq, Bool.not_eq_true', decide_eq_false_iff_not] at h
  obtain ⟨h1, h2, h3, h4⟩ := h
  refine ⟨h1, h2, by omega, fun j hj => ?_⟩
  have := okR_of a L L.length 0 (by omega) h4 j (by omega) hj
  unfold okR at this
  simpa only [Bool.and_eq_true, decide_eq_true_eq, Bool.not_eq_true', decide_eq_false_iff_not] using this


/-- A loop over a list, at the element r. -/
theorem at_split {L pre suf : List S51} {r : S51} (hL : L = pre ++ r :: suf) (hb : L.length ≤ 1048576) :
    L.length = pre.length + suf.length + 1 ∧ rd_T51 L (pre.length : Int) = r ∧ wrap64 ((pre.length : Int) + 1) = ((pre ++ [r]).length : Int) ∧ L = (pre ++ [r]) ++ suf := by
  have h1 : L.length = pre.length + suf.length + 1 := by rw [hL]; simp; omega
  refine ⟨h1, ?_, ?_, by rw [hL]; simp⟩
  · rw [hL]
    unfold rd_T51
    simp
  · rw [wrap_id (by omega) (by omega)]
    simp
theorem Good.mem {a b : Int} {L : List S51} (g : Good a b L) {r : S51} (h : r ∈ L) : (0 ≤ r.f0 ∧ r.f0 ≤ a - 1) ∧ (0 ≤ r.f1 ∧ r.f1 ≤ a - 1) ∧ ¬ r.f0 = r.f1 ∧ (0 ≤ r.f2 ∧ r.f2 ≤ 20) ∧ (0 ≤ r.f3 ∧ r.f3 ≤ 20) := by
  obtain ⟨j, hj, rfl⟩ := List.getElem_of_mem h
  exact g.hr j hj

theorem markResultS_l0 (n : Nat) : ∀ (x : List S51) (i : Nat) (a : Int), i + n = x.length → x.length ≤ 1048576 → 0 ≤ a → a + 4 * n ≤ 1000000000000000000 → ∃ y : List S51, Ev (fun k => laws_markResultS.l0 k x a (i : Int)) (a + 4 * n, y) := by
  induction n with
  | zero =>
    intro x i a hi hx h0 h1
    refine ⟨x, ev_some fun k => ?_⟩
    simp only [laws_markResultS.l0]
    rw [if_neg (by omega)]
    simp
  | succ n ih =>
    intro x i a hi hx h0 h1
    have w1 : wrap64 (a + 1) = a + 1 := wrap_id (by omega) (by omega)
    have w2 : wrap64 (a + 1 + 1) = a + 1 + 1 := wrap_id (by omega) (by omega)
    have w3 : wrap64 (a + 1 + 1 + 1) = a + 1 + 1 + 1 := wrap_id (by omega) (by omega)
    have w4 : wrap64 (a + 1 + 1 + 1 + 1) = a + 1 + 1 + 1 + 1 := wrap_id (by omega) (by omega)
    have w5 : wrap64 ((i : Int) + 1) = ((i + 1 : Nat) : Int) := by rw [wrap_id (by omega) (by omega)]; rfl
    have hstep : ∃ x' : List S51, x'.length = x.length ∧ ∀ k, laws_markResultS.l0 (k + 1) x a (i : Int) = laws_markResultS.l0 k x' (a + 1 + 1 + 1 + 1) ((i + 1 : Nat) : Int) := by
      refine ⟨?x, ?h1, ?h2⟩
      case h2 =>
        intro k
        simp only [laws_markResultS.l0]
        rw [if_pos (by omega), if_pos (by omega), w1, w2, w3, w4, w5]
        simp only [Option.bind_some]
        exact rfl
      case h1 => simp
    obtain ⟨x', hx', hs⟩ := hstep
    obtain ⟨y, hy⟩ := ih x' (i + 1) (a + 1 + 1 + 1 + 1) (by omega) (by omega) (by omega) (by omega)
    refine ⟨y, Ev.step hs ?_⟩
    have e : a + 1 + 1 + 1 + 1 + 4 * (n : Int) = a + 4 * ((n + 1 : Nat) : Int) := by omega
    rw [e] at hy
    exact hy
theorem markLeague_ev (p q : Int) (x : List S51) (hx : x.length ≤ 1048576) (a : Int) (h0 : 0 ≤ a) (h1 : a ≤ 1000) : ∃ y : List S51, Ev (fun k => laws_markLeague.f k p q x a) (a + 4 * x.length, y) := by
  obtain ⟨y, hy⟩ := markResultS_l0 x.length x 0 a (by omega) hx h0 (by omega)
  refine ⟨y, ?_⟩
  unfold laws_markLeague.f laws_markResultS.f
  exact Ev.bind (f := fun _ t => some (t.1, t.2)) hy (Ev.now _)

def seqR (a : Int) : Nat → List S51
  | 0 => []
  | n + 1 => ⟨a, a + 1, a + 1 + 1, a + 1 + 1 + 1⟩ :: seqR (a + 1 + 1 + 1 + 1) n
theorem seqR_len (n : Nat) : ∀ a, (seqR a n).length = n := by
  induction n with
  | zero => intro a; rfl
  | succ n ih => intro a; simp [seqR, ih]
theorem midS_set (xs ys : List S51) (r v : S51) : (xs ++ r :: ys).set (xs.length : Int).toNat v = xs ++ v :: ys := by simp
theorem rd_midS (xs ys : List S51) (r : S51) : rd_T51 (xs ++ r :: ys) (xs.length : Int) = r := by unfold rd_T51; simp
theorem markResS_l0 (rest : List S51) : ∀ (done : List S51) (a : Int), done.length + rest.length ≤ 1048576 → 0 ≤ a → a + 4 * rest.length ≤ 1000000000000000000 →
    Ev (fun k => laws_markResultS.l0 k (done ++ rest) a (done.length : Int)) (a + 4 * rest.length, done ++ seqR a rest.length) := by
  induction rest with
  | nil =>
    intro done a hb h0 h1
    refine ev_some fun k => ?_
    simp only [laws_markResultS.l0]
    rw [if_neg (by simp)]
    simp [seqR]
  | cons r rest ih =>
    intro done a hb h0 h1
    have hb1 : done.length + (rest.length + 1) ≤ 1048576 := by simpa using hb
    have h1' : a + 4 * ((rest.length : Int) + 1) ≤ 1000000000000000000 := by simpa using h1
    have w1 : wrap64 (a + 1) = a + 1 := wrap_id (by omega) (by omega)
    have w2 : wrap64 (a + 1 + 1) = a + 1 + 1 := wrap_id (by omega) (by omega)
    have w3 : wrap64 (a + 1 + 1 + 1) = a + 1 + 1 + 1 := wrap_id (by omega) (by omega)
    have w4 : wrap64 (a + 1 + 1 + 1 + 1) = a + 1 + 1 + 1 + 1 := wrap_id (by omega) (by omega)
    have w5 : wrap64 ((done.length : Int) + 1) = ((done ++ [(⟨a, a + 1, a + 1 + 1, a + 1 + 1 + 1⟩ : S51)]).length : Int) := by
      rw [wrap_id (by omega) (by omega)]
      simp
    have := ih (done ++ [⟨a, a + 1, a + 1 + 1, a + 1 + 1 + 1⟩]) (a + 1 + 1 + 1 + 1) (by simp; omega) (by omega) (by omega)
    have e1 : a + 1 + 1 + 1 + 1 + 4 * (rest.length : Int) = a + 4 * ((r :: rest).length : Int) := by simp; omega
    have e2 : (done ++ [(⟨a, a + 1, a + 1 + 1, a + 1 + 1 + 1⟩ : S51)]) ++ seqR (a + 1 + 1 + 1 + 1) rest.length = done ++ seqR a (r :: rest).length := by simp [seqR]
    rw [e1, e2] at this
    refine Ev.step (fun k => ?_) this
    simp only [laws_markResultS.l0]
    rw [if_pos (by simp; omega), if_pos (by omega), w1, w2, w3, w4, w5]
    simp only [Option.bind_some, midS_set, rd_midS, List.append_assoc, List.singleton_append]
theorem markResS_ev (p q : Int) (x : List S51) (hx : x.length ≤ 1048576) : Ev (fun k => laws_markLeague.f k p q x 1) (1 + 4 * (x.length : Int), seqR 1 x.length) := by
  unfold laws_markLeague.f laws_markResultS.f
  have := markResS_l0 x [] 1 (by simpa using hx) (by omega) (by omega)
  exact Ev.bind (f := fun _ t => some (t.1, t.2)) this (Ev.now _)
theorem heldResS_l0 (n : Nat) : ∀ (done : List S51) (a : Int), done.length + n ≤ 1048576 → 0 ≤ a → a + 4 * n ≤ 1000000000000000000 →
    Ev (fun k => laws_heldResultS.l0 k (done ++ seqR a n) a (done.length : Int)) (a + 4 * n) := by
  induction n with
  | zero =>
    intro done a hb h0 h1
    refine ev_some fun k => ?_
    simp only [laws_heldResultS.l0]
    rw [if_neg (by simp [seqR])]
    simp
  | succ n ih =>
    intro done a hb h0 h1
    have w1 : wrap64 (a + 1) = a + 1 := wrap_id (by omega) (by omega)
    have w2 : wrap64 (a + 1 + 1) = a + 1 + 1 := wrap_id (by omega) (by omega)
    have w3 : wrap64 (a + 1 + 1 + 1) = a + 1 + 1 + 1 := wrap_id (by omega) (by omega)
    have w4 : wrap64 (a + 1 + 1 + 1 + 1) = a + 1 + 1 + 1 + 1 := wrap_id (by omega) (by omega)
    have w5 : wrap64 ((done.length : Int) + 1) = ((done ++ [(⟨a, a + 1, a + 1 + 1, a + 1 + 1 + 1⟩ : S51)]).length : Int) := by
      rw [wrap_id (by omega) (by omega)]
      simp
    have := ih (done ++ [⟨a, a + 1, a + 1 + 1, a + 1 + 1 + 1⟩]) (a + 1 + 1 + 1 + 1) (by simp; omega) (by omega) (by omega)
    have e1 : a + 1 + 1 + 1 + 1 + 4 * (n : Int) = a + 4 * ((n + 1 : Nat) : Int) := by omega
    have e2 : (done ++ [(⟨a, a + 1, a + 1 + 1, a + 1 + 1 + 1⟩ : S51)]) ++ seqR (a + 1 + 1 + 1 + 1) n = done ++ seqR a (n + 1) := by simp [seqR]
    have e3 : done ++ seqR a (n + 1) = done ++ (⟨a, a + 1, a + 1 + 1, a + 1 + 1 + 1⟩ : S51) :: seqR (a + 1 + 1 + 1 + 1) n := rfl
    have hl : (done.length : Int) < ((done ++ seqR a (n + 1)).length : Int) := by simp [seqR_len]; omega
    have hr : rd_T51 (done ++ seqR a (n + 1)) (done.length : Int) = (⟨a, a + 1, a + 1 + 1, a + 1 + 1 + 1⟩ : S51) := by rw [e3, rd_midS]
    rw [e1, e2] at this
    refine Ev.step (fun k => ?_) this
    simp only [laws_heldResultS.l0]
    rw [if_pos hl, if_pos (by omega), hr, w1, w2, w3, w4, w5]
    simp only [if_true]
theorem heldResS_ev (p q : Int) (n : Nat) (hn : n ≤ 1048576) : Ev (fun k => laws_heldLeague.f k p q (seqR 1 n) 1) (1 + 4 * (n : Int)) := by
  unfold laws_heldLeague.f laws_heldResultS.f
  have := heldResS_l0 n [] 1 (by simpa using hn) (by omega) (by omega)
  refine Ev.bind this ?_
  rw [if_neg (by omega)]
  exact Ev.now _

/-! a league with a result more -/
theorem ar_own (l : List S51) (h : l.length ≤ 1048576) : spec_lgOwn.f l = some l := by
  unfold spec_lgOwn.f
  rw [Option.bind_some, if_pos (by simp; omega)]
  rfl
theorem ar_clone (l : List S51) (h : l.length ≤ 1048576) : slices_Clone.f l = some l := by
  unfold slices_Clone.f
  rw [Option.bind_some, if_pos (by simp; omega)]
  rfl

theorem FnExactAddResult : ∀ (a0_0 : Int) (a0_1 : Int) (l0_2 : List S48) (a1_0 : Int) (a1_1 : Int) (a1_2 : Int) (a1_3 : Int), (Lit.int .i64 a0_0).wf = true → (Lit.int .i64 a0_1).wf = true → l0_2.length ≤ 9223372036854775807 → (Lit.int .i64 a1_0).wf = true → (Lit.int .i64 a1_1).wf = true → (Lit.int .i64 a1_2).wf = true → (Lit.int .i64 a1_3).wf = true → ∃ k, laws_FnExactAddResult.f k a0_0 a0_1 l0_2 a1_0 a1_1 a1_2 a1_3 = some true := by
  intro a b l c0 c1 c2 c3 _ _ hl _ _ _ _
  refine Ev.rounds ?_
  obtain ⟨z, hz, hc⟩ := szLeague_eq a b l hl
  unfold laws_FnExactAddResult.f
  simp only [hz, Option.bind_some, laws_toResult.f]
  by_cases h : z < 0
  · simp only [h, if_true]
    exact Ev.now _
  · simp only [h, if_false]
    have hl2 : l.length ≤ 1048576 := by omega
    have hL : (l.map conv).length ≤ 1048576 := by simpa using hl2
    have hM : ((l.map conv) ++ [(⟨c0, c1, c2, c3⟩ : S51)]).length ≤ 1048577 := by rw [List.length_append]; simp; omega
    have both : ∃ v : Int × Int × List S51 × Bool, v.2.2.1.length ≤ 1048576 ∧ Ev (fun k => spec_AddResult.f k a b (l.map conv) c0 c1 c2 c3) v ∧ Ev (fun k => impl_AddResult.f k a b (l.map conv) c0 c1 c2 c3) v := by
      unfold spec_AddResult.f impl_AddResult.f
      rw [ar_own _ hL, ar_clone _ hL]
      simp only [Option.bind_some, List.length_singleton]
      simp only [if_pos (show (l.map conv).length + 1 < 4398046511104 by omega)]
      cases ht : goodB a b (l.map conv)
      · refine ⟨(0, 0, [], false), by simp, Ev.bind (lgGood_ev a b _ hL) ?_, Ev.bind (isLeague_ev a b _ hL) ?_⟩
        · simp only [ht, Bool.false_eq_true, if_false]
          exact Ev.now _
        · simp only [ht, Bool.false_eq_true, if_false]
          exact Ev.now _
      · have g := good_of ht
        have h56 := g.hl
        have hL2 : ((l.map conv) ++ [(⟨c0, c1, c2, c3⟩ : S51)]).length ≤ 1048576 := by rw [List.length_append]; simp only [List.length_singleton]; omega
        cases ht2 : goodB a b ((l.map conv) ++ [(⟨c0, c1, c2, c3⟩ : S51)])
        · refine ⟨(0, 0, [], false), by simp, Ev.bind (lgGood_ev a b _ hL) ?_, Ev.bind (isLeague_ev a b _ hL) ?_⟩
          · simp only [ht, if_true]
            refine Ev.bind (lgGood_ev a b _ hL2) ?_
            simp only [ht2, Bool.false_eq_true, if_false]
            exact Ev.now _
          · simp only [ht, if_true]
            refine Ev.bind (isLeague_ev a b _ hL2) ?_
            simp only [ht2, Bool.false_eq_true, if_false]
            exact Ev.now _
        · refine ⟨(a, b, (l.map conv) ++ [(⟨c0, c1, c2, c3⟩ : S51)], true), hL2, Ev.bind (lgGood_ev a b _ hL) ?_, Ev.bind (isLeague_ev a b _ hL) ?_⟩
          · simp only [ht, if_true]
            refine Ev.bind (lgGood_ev a b _ hL2) ?_
            simp only [ht2, if_true]
            exact Ev.now _
          · simp only [ht, if_true]
            refine Ev.bind (isLeague_ev a b _ hL2) ?_
            simp only [ht2, if_true]
            exact Ev.now _
    obtain ⟨⟨p, q, v, f⟩, hv, hs, hi⟩ := both
    simp only at hv
    have hm := markResS_ev p q v hv
    have hh := heldResS_ev p q v.length hv
    have he := eqLeague_ev p q v hv
    have h2 : Ev (fun k => laws_FnExactAddResult.j2 k (1 + 4 * (v.length : Int)) false p q (seqR 1 v.length)) true := by
      refine Ev.step (f := fun k => (laws_heldLeague.f k p q (seqR 1 v.length) 1).bind fun t => if t < 0 then some false else if t = 1 + 4 * (v.length : Int) then some true else some false) (fun k => by simp [laws_FnExactAddResult.j2]) ?_
      refine Ev.bind hh ?_
      simp only [if_neg (show ¬ (1 + 4 * (v.length : Int)) < 0 by omega), if_true]
      exact Ev.now _
    have h1 : Ev (fun k => laws_FnExactAddResult.j1 k f false a b l c0 c1 c2 c3 p q v p q v) true := by
      refine Ev.step (f := fun k => (laws_markLeague.f k p q v 1).bind fun m => (laws_heldLeague.f k p q m.2 1).bind fun t => if t < 0 then some false else if t = m.1 then (laws_toLeague.f k a b l).bind fun w => (impl_AddResult.f k w.1 w.2.1 w.2.2 c0 c1 c2 c3).bind fun s => (laws_eqLeague.f k s.1 s.2.1 s.2.2.1 p q v).bind fun u => if u = true then laws_FnExactAddResult.j2 k m.1 (s.2.2.2 != f) p q m.2 else laws_FnExactAddResult.j2 k m.1 true p q m.2 else some false) (fun k => by simp [laws_FnExactAddResult.j1, laws_toResult.f]) ?_
      refine Ev.bind hm ?_
      refine Ev.bind hh ?_
      simp only [if_neg (show ¬ (1 + 4 * (v.length : Int)) < 0 by omega), if_true]
      refine Ev.bind (toLeague_ev a b l hl2) ?_
      refine Ev.bind hi ?_
      refine Ev.bind he ?_
      simpa using h2
    obtain ⟨y, hy⟩ := markLeague_ev a b (l.map conv) hL 1 (by omega) (by omega)
    have h0 : Ev (fun k => laws_FnExactAddResult.j0 k f f false a b l c0 c1 c2 c3 p q v a b (l.map conv) p q v) true := by
      refine Ev.step (f := fun k => (laws_toLeague.f k a b l).bind fun m => (laws_eqLeague.f k a b (l.map conv) m.1 m.2.1 m.2.2).bind fun t => if t = true then (laws_markLeague.f k a b (l.map conv) 1).bind fun w => if w.1 < 0 then laws_FnExactAddResult.j1 k f true a b l c0 c1 c2 c3 p q v p q v else (laws_eqLeague.f k p q v p q v).bind fun s => if s = true then laws_FnExactAddResult.j1 k f (f != f) a b l c0 c1 c2 c3 p q v p q v else laws_FnExactAddResult.j1 k f true a b l c0 c1 c2 c3 p q v p q v else some false) (fun k => by simp [laws_FnExactAddResult.j0]) ?_
      refine Ev.bind (toLeague_ev a b l hl2) ?_
      refine Ev.bind (eqLeague_ev a b _ hL) ?_
      simp only [if_true]
      refine Ev.bind hy ?_
      simp only [if_neg (show ¬ (1 + 4 * ((l.map conv).length : Int)) < 0 by omega)]
      refine Ev.bind he ?_
      simpa using h1
    refine Ev.bind (toLeague_ev a b l hl2) ?_
    refine Ev.bind hs ?_
    refine Ev.bind (toLeague_ev a b l hl2) ?_
    refine Ev.bind hi ?_
    refine Ev.bind he ?_
    simpa using h0

end Go.Proofs.Ytolcneiniojdfaa.Pure
