/- What the printed functions of FnExactLeftResults compute answers true, at every argument of its types. No condition beside the types' own bounds. -/
import Derived.Test.YtolcneiniojdfaaQFnExactLeftResultsx
namespace Go.Proofs.Ytolcneiniojdfaa.Pure
open Go.RowKit Go.Proofs.Ytolcneiniojdfaa.QFnExactLeftResults Go.Proofs.YtolcneiniojdfaaW.PrintWords Go.Proofs.YtolcneiniojdfaaW.PrintLast Go.Proofs.YtolcneiniojdfaaW.PrintMore
set_option linter.unusedVariables false
set_option linter.unusedSimpArgs false
set_option linter.unusedSectionVars false

theorem ev_some {α : Type} {g : Nat → Option α} {r : α} (h : ∀ k, g (k + 1) = some r) : Ev g r := Ev.step h (Ev.now r)
theorem ev_const {α : Type} {g : Nat → Option α} {r : α} (h : ∀ k, g k = some r) : Ev g r := ⟨0, fun k _ => h k⟩
theorem wrap_id {i : Int} (h0 : -9223372036854775808 ≤ i) (h1 : i ≤ 9223372036854775807) : wrap64 i = i := by unfold wrap64; omega
theorem l1In_eq (a b c : Int) : spec_l1In.f a b c = some (decide (b ≤ a ∧ a ≤ c)) := by
  unfold spec_l1In.f
  by_cases h : a ≥ b
  · rw [if_pos h]
    have h2 : b ≤ a := h
    simp [h2]
  · rw [if_neg h]
    have h2 : ¬ b ≤ a := h
    simp [h2]
def conv (s : S48) : S51 := ⟨s.f0, s.f1, s.f2, s.f3⟩
theorem rdA (l : List S48) (n : Nat) (h : n < l.length) : rd_T48 l (n : Int) = l[n] := by
  unfold rd_T48
  simp [List.getD_eq_getElem?_getD, List.getElem?_eq_getElem h]
theorem rdB (l : List S51) (n : Nat) (h : n < l.length) : rd_T51 l (n : Int) = l[n] := by
  unfold rd_T51
  simp [List.getD_eq_getElem?_getD, List.getElem?_eq_getElem h]

theorem szLeague_eq (a b : Int) (l : List S48) (hl : l.length ≤ 9223372036854775807) : ∃ t, laws_szLeague.f a b l 1048576 = some t ∧ (t < 0 ∨ l.length ≤ 1048576) := by
  unfold laws_szLeague.f laws_szResultS.f
  by_cases h : wrap64 (1048576 - (l.length : Int)) < 0
  · refine ⟨-1, ?_, Or.inl (by omega)⟩
    rw [if_pos h]
    rfl
  · refine ⟨wrap64 (1048576 - (l.length : Int)), ?_, Or.inr ?_⟩
    · rw [if_neg h]
      simp only [Option.bind_some]
      rw [if_neg h]
    · unfold wrap64 at h
      omega

theorem toResultS_l0 (l : List S48) (hl : l.length ≤ 1048576) (d : Nat) : ∀ (i : Nat) (x : List S51), i + d = l.length → x.length = l.length → (∀ j, j < i → x[j]? = (l.map conv)[j]?) → Ev (fun k => laws_toResultS.l0 k l x (i : Int)) (l.map conv) := by
  induction d with
  | zero =>
    intro i x hi hx hp
    refine ev_some fun k => ?_
    simp only [laws_toResultS.l0]
    rw [if_neg (by omega)]
    congr 1
    apply List.ext_getElem?
    intro j
    by_cases hj : j < i
    · exact hp j hj
    · rw [List.getElem?_eq_none (by omega), List.getElem?_eq_none (by simp; omega)]
  | succ d ih =>
    intro i x hi hx hp
    have hlt : i < l.length := by omega
    refine Ev.step (f := fun k => laws_toResultS.l0 k l (x.set i (conv l[i])) ((i + 1 : Nat) : Int)) (fun k => ?_) (ih (i + 1) (x.set i (conv l[i])) (by omega) (by rw [List.length_set]; exact hx) ?_)
    · simp only [laws_toResultS.l0]
      rw [if_pos (by omega), if_pos (by omega), rdA l i hlt]
      simp only [laws_toResult.f, Option.bind_some]
      rw [if_pos (by omega), wrap_id (by omega) (by omega), Int.toNat_natCast]
      rfl
    · intro j hj
      by_cases e : j = i
      · subst e
        rw [List.getElem?_set_self (by omega)]
        simp [hlt]
      · rw [List.getElem?_set_ne (by omega)]
        exact hp j (by omega)
theorem toResultS_ev (l : List S48) (hl : l.length ≤ 1048576) : Ev (fun k => laws_toResultS.f k l) (l.map conv) := by
  refine Ev.congr (f := fun k => laws_toResultS.l0 k l (List.replicate l.length z51) ((0 : Nat) : Int)) (fun k => ?_) (toResultS_l0 l hl l.length 0 (List.replicate l.length z51) (by omega) List.length_replicate (fun j hj => by omega))
  unfold laws_toResultS.f
  rw [if_pos (by omega), if_pos (by omega)]
  simp
theorem toLeague_ev (a b : Int) (l : List S48) (hl : l.length ≤ 1048576) : Ev (fun k => laws_toLeague.f k a b l) (a, b, l.map conv) := by
  unfold laws_toLeague.f
  exact Ev.bind (f := fun _ t => some (a, b, t)) (toResultS_ev l hl) (Ev.now _)

theorem eqResultS_l0 (L : List S51) (hl : L.length ≤ 1048576) (d : Nat) : ∀ i : Nat, i + d = L.length → Ev (fun k => laws_eqResultS.l0 k L L (i : Int)) true := by
  induction d with
  | zero =>
    intro i hi
    refine ev_some fun k => ?_
    simp only [laws_eqResultS.l0]
    rw [if_neg (by omega)]
  | succ d ih =>
    intro i hi
    refine Ev.step (f := fun k => laws_eqResultS.l0 k L L ((i + 1 : Nat) : Int)) (fun k => ?_) (ih (i + 1) (by omega))
    simp only [laws_eqResultS.l0]
    rw [if_pos (by omega), if_pos (by omega), if_pos (by omega)]
    have e : ∀ a b c d : Int, laws_eqResult.f a b c d a b c d = some true := fun a b c d => by simp [laws_eqResult.f]
    rw [e, wrap_id (by omega) (by omega)]
    rfl
theorem eqResultS_ev (L : List S51) (hl : L.length ≤ 1048576) : Ev (fun k => laws_eqResultS.f k L L) true := by
  refine Ev.congr (f := fun k => laws_eqResultS.l0 k L L ((0 : Nat) : Int)) (fun k => ?_) (eqResultS_l0 L hl L.length 0 (by omega))
  unfold laws_eqResultS.f
  rw [if_pos rfl]
  rfl
theorem eqLeague_ev (a b : Int) (L : List S51) (hl : L.length ≤ 1048576) : Ev (fun k => laws_eqLeague.f k a b L a b L) true := by
  refine Ev.congr (f := fun k => (laws_eqResultS.f k L L).bind fun t => if t = true then some true else some false) (fun k => ?_) (Ev.bind (f := fun _ t => if t = true then some true else some false) (eqResultS_ev L hl) (Ev.now _))
  unfold laws_eqLeague.f
  rw [if_pos rfl, if_pos rfl]

/-! what a good league is -/
def okR (T : Int) (r : S51) : Bool := decide (0 ≤ r.f0 ∧ r.f0 ≤ T - 1) && (decide (0 ≤ r.f1 ∧ r.f1 ≤ T - 1) && (!decide (r.f0 = r.f1) && (decide (0 ≤ r.f2 ∧ r.f2 ≤ 20) && decide (0 ≤ r.f3 ∧ r.f3 ≤ 20))))
def seenB (L : List S51) (i : Nat) (x y : Int) : Bool := (L.take i).any fun s => decide (s.f0 = x ∧ s.f1 = y)
def goodFrom (T : Int) (L : List S51) : Nat → Nat → Bool
  | _, 0 => true
  | i, d + 1 => okR T (L.getD i z51) && (!seenB L i (L.getD i z51).f0 (L.getD i z51).f1 && goodFrom T L (i + 1) d)
def goodB (a b : Int) (L : List S51) : Bool := decide (2 ≤ a ∧ a ≤ 8) && (decide (2 ≤ b ∧ b ≤ 3) && (!decide ((L.length : Int) > 56) && goodFrom a L 0 L.length))

theorem lgResult_eq (T : Int) (hT : 2 ≤ T ∧ T ≤ 8) (r : S51) : spec_lgResult.f T r.f0 r.f1 r.f2 r.f3 = some (okR T r) := by
  unfold spec_lgResult.f okR
  simp only [l1In_eq, wrap_id (i := T - 1) (by omega) (by omega), Option.bind_some]
  by_cases h2 : r.f0 = r.f1
  · cases decide (0 ≤ r.f0 ∧ r.f0 ≤ T - 1) <;> cases decide (0 ≤ r.f1 ∧ r.f1 ≤ T - 1) <;> cases decide (0 ≤ r.f2 ∧ r.f2 ≤ 20) <;> cases decide (0 ≤ r.f3 ∧ r.f3 ≤ 20) <;> simp [h2]
  · cases decide (0 ≤ r.f0 ∧ r.f0 ≤ T - 1) <;> cases decide (0 ≤ r.f1 ∧ r.f1 ≤ T - 1) <;> cases decide (0 ≤ r.f2 ∧ r.f2 ≤ 20) <;> cases decide (0 ≤ r.f3 ∧ r.f3 ≤ 20) <;> simp [h2]

theorem lgGood_l1 (L : List S51) (n a b : Int) (i : Nat) (hi : i < 1048576) (y : List S51) (x0 x1 x2 x3 : Int) (res : Bool) (hy : y.length ≤ 1048576) (hk : Ev (fun k => spec_lgGood.l0 k L n ((i + 1 : Nat) : Int) a b L) res) (d : Nat) :
    ∀ j : Nat, j + d = y.length → Ev (fun k => spec_lgGood.l1 k L n (i : Int) y (y.length : Int) (j : Int) a b L x0 x1 x2 x3) (!(y.drop j).any (fun s => decide (s.f0 = x0 ∧ s.f1 = x1)) && res) := by
  induction d with
  | zero =>
    intro j hj
    rw [List.drop_eq_nil_of_le (by omega)]
    simp only [List.any_nil, Bool.not_false, Bool.true_and]
    refine Ev.step (f := fun k => spec_lgGood.l0 k L n ((i + 1 : Nat) : Int) a b L) (fun k => ?_) hk
    simp only [spec_lgGood.l1]
    rw [if_neg (by omega), wrap_id (by omega) (by omega)]
    rfl
  | succ d ih =>
    intro j hj
    have hlt : j < y.length := by omega
    rw [List.drop_eq_getElem_cons hlt, List.any_cons]
    by_cases e : y[j].f0 = x0 ∧ y[j].f1 = x1
    · simp only [e, and_self, decide_true, Bool.true_or, Bool.not_true, Bool.false_and]
      refine ev_some fun k => ?_
      simp only [spec_lgGood.l1]
      rw [if_pos (by omega), if_pos (by omega), if_pos (by omega), rdB y j hlt, if_pos e.1, if_pos e.2]
    · simp only [e, decide_false, Bool.false_or]
      refine Ev.step (f := fun k => spec_lgGood.l1 k L n (i : Int) y (y.length : Int) ((j + 1 : Nat) : Int) a b L x0 x1 x2 x3) (fun k => ?_) (ih (j + 1) (by omega))
      simp only [spec_lgGood.l1]
      rw [if_pos (by omega), if_pos (by omega), if_pos (by omega), rdB y j hlt, wrap_id (by omega) (by omega)]
      by_cases e0 : y[j].f0 = x0
      · rw [if_pos e0, if_neg (fun e1 => e ⟨e0, e1⟩)]
        rfl
      · rw [if_neg e0]
        rfl

theorem lgGood_l0 (L : List S51) (a b : Int) (ha : 2 ≤ a ∧ a ≤ 8) (hl : L.length ≤ 1048576) (d : Nat) : ∀ i : Nat, i + d = L.length → Ev (fun k => spec_lgGood.l0 k L (L.length : Int) (i : Int) a b L) (goodFrom a L i d) := by
  induction d with
  | zero =>
    intro i hi
    refine ev_some fun k => ?_
    simp only [spec_lgGood.l0]
    rw [if_neg (by omega)]
    rfl
  | succ d ih =>
    intro i hi
    have hlt : i < L.length := by omega
    have eg : L.getD i z51 = L[i] := by simp [List.getD_eq_getElem?_getD, List.getElem?_eq_getElem hlt]
    unfold goodFrom
    rw [eg]
    have hmain : ∀ k, spec_lgGood.l0 (k + 1) L (L.length : Int) (i : Int) a b L = (if okR a L[i] = true then (spec_lgGood.l1 k L (L.length : Int) (i : Int) (L.take i) ((L.take i).length : Int) ((0 : Nat) : Int) a b L L[i].f0 L[i].f1 L[i].f2 L[i].f3) else some false) := by
      intro k
      simp only [spec_lgGood.l0]
      rw [if_pos (by omega), if_pos (by omega), if_pos (by omega), rdB L i hlt, lgResult_eq a ha]
      simp only [Option.bind_some]
      rw [if_pos (show (i : Int) ≤ (L.length : Int) by omega), Int.toNat_natCast]
      rfl
    by_cases hok : okR a L[i] = true
    · rw [hok]
      have hi2 := lgGood_l1 L (L.length : Int) a b i (by omega) (L.take i) L[i].f0 L[i].f1 L[i].f2 L[i].f3 _ (by simp; omega) (ih (i + 1) (by omega)) (L.take i).length 0 (by omega)
      refine Ev.step (fun k => (hmain k).trans (by rw [if_pos hok])) ?_
      simpa [seenB] using hi2
    · rw [Bool.not_eq_true] at hok
      rw [hok]
      refine ev_some fun k => (hmain k).trans (by rw [hok]; rfl)

theorem lgGood_ev (a b : Int) (L : List S51) (hl : L.length ≤ 1048576) : Ev (fun k => spec_lgGood.f k a b L) (goodB a b L) := by
  unfold spec_lgGood.f goodB
  simp only [l1In_eq, Option.bind_some]
  have hj : ∀ x : Bool, 2 ≤ a ∧ a ≤ 8 → Ev (fun k => spec_lgGood.j0 k x a b L) (!x && goodFrom a L 0 L.length) := by
    intro x ha
    cases x
    · exact Ev.step (f := fun k => spec_lgGood.l0 k L (L.length : Int) ((0 : Nat) : Int) a b L) (fun k => by simp only [spec_lgGood.j0]; rw [if_neg (by simp)]; rfl) (by simpa using lgGood_l0 L a b ha hl L.length 0 (by omega))
    · exact ev_some fun k => by simp [spec_lgGood.j0]
  have hf : Ev (fun k => spec_lgGood.j0 k true a b L) false := ev_some fun k => by simp [spec_lgGood.j0]
  by_cases ha : 2 ≤ a ∧ a ≤ 8
  · by_cases hb : 2 ≤ b ∧ b ≤ 3
    · simp only [ha, hb, and_self, decide_true, if_true, Bool.true_and]
      exact hj _ ha
    · simp only [ha, hb, and_self, decide_true, if_true, decide_false, Bool.false_and, Bool.and_false]
      exact hf
  · simp only [ha, decide_false, Bool.false_and]
    exact hf

theorem g_within_eq (a b c : Int) : g_within.f a b c = some (decide (b ≤ a ∧ a ≤ c)) := by
  unfold g_within.f
  by_cases h : b ≤ a
  · rw [if_pos h]
    simp [h]
  · rw [if_neg h]
    simp [h]
theorem seenHas_eq (L : List S51) (i : Nat) (x y : Int) : seenHas.f L (i : Int) x y = some (seenB L i x y) := by
  unfold seenHas.f seenL seenB
  rw [Int.toNat_natCast]
  congr 1
  rw [Bool.eq_iff_iff]
  simp only [decide_eq_true_eq, List.mem_reverse, List.mem_map, List.any_eq_true, Prod.mk.injEq]
theorem isLeague_l0 (L : List S51) (a b : Int) (ha : 2 ≤ a ∧ a ≤ 8) (hl : L.length ≤ 1048576) (d : Nat) : ∀ i : Nat, i + d = L.length → Ev (fun k => impl_IsLeague.l0 k L (L.length : Int) (i : Int) a b L) (goodFrom a L i d) := by
  induction d with
  | zero =>
    intro i hi
    refine ev_some fun k => ?_
    simp only [impl_IsLeague.l0]
    rw [if_neg (by omega)]
    rfl
  | succ d ih =>
    intro i hi
    have hlt : i < L.length := by omega
    have eg : L.getD i z51 = L[i] := by simp [List.getD_eq_getElem?_getD, List.getElem?_eq_getElem hlt]
    unfold goodFrom okR
    rw [eg]
    have hstep : wrap64 ((i : Int) + 1) = ((i + 1 : Nat) : Int) := by rw [wrap_id (by omega) (by omega)]; rfl
    have hmain : ∀ k, impl_IsLeague.l0 (k + 1) L (L.length : Int) (i : Int) a b L = (if ((decide (0 ≤ L[i].f0 ∧ L[i].f0 ≤ a - 1) && (decide (0 ≤ L[i].f1 ∧ L[i].f1 ≤ a - 1) && (!decide (L[i].f0 = L[i].f1) && (decide (0 ≤ L[i].f2 ∧ L[i].f2 ≤ 20) && decide (0 ≤ L[i].f3 ∧ L[i].f3 ≤ 20))))) && !seenB L i L[i].f0 L[i].f1) = true then impl_IsLeague.l0 k L (L.length : Int) ((i + 1 : Nat) : Int) a b L else some false) := by
      intro k
      simp only [impl_IsLeague.l0]
      rw [if_pos (by omega), if_pos (by omega), if_pos (by omega), rdB L i hlt, hstep]
      simp only [g_within_eq, seenHas_eq, wrap_id (i := a - 1) (by omega) (by omega), Option.bind_some]
      by_cases h2 : L[i].f0 = L[i].f1
      · cases decide (0 ≤ L[i].f0 ∧ L[i].f0 ≤ a - 1) <;> cases decide (0 ≤ L[i].f1 ∧ L[i].f1 ≤ a - 1) <;> simp [h2]
      · cases decide (0 ≤ L[i].f0 ∧ L[i].f0 ≤ a - 1) <;> cases decide (0 ≤ L[i].f1 ∧ L[i].f1 ≤ a - 1) <;> cases decide (0 ≤ L[i].f2 ∧ L[i].f2 ≤ 20) <;> cases decide (0 ≤ L[i].f3 ∧ L[i].f3 ≤ 20) <;> cases seenB L i L[i].f0 L[i].f1 <;> simp [h2]
    rw [← Bool.and_assoc]
    revert hmain
    generalize ((decide (0 ≤ L[i].f0 ∧ L[i].f0 ≤ a - 1) && (decide (0 ≤ L[i].f1 ∧ L[i].f1 ≤ a - 1) && (!decide (L[i].f0 = L[i].f1) && (decide (0 ≤ L[i].f2 ∧ L[i].f2 ≤ 20) && decide (0 ≤ L[i].f3 ∧ L[i].f3 ≤ 20))))) && !seenB L i L[i].f0 L[i].f1) = c
    intro hmain
    cases c
    · exact ev_some fun k => by rw [hmain k]; simp
    · exact Ev.step (fun k => (hmain k).trans (by rw [if_pos rfl])) (by simpa using ih (i + 1) (by omega))
theorem isLeague_ev (a b : Int) (L : List S51) (hl : L.length ≤ 1048576) : Ev (fun k => impl_IsLeague.f k a b L) (goodB a b L) := by
  unfold impl_IsLeague.f goodB
  simp only [g_within_eq, Option.bind_some]
  have hj : ∀ x : Bool, 2 ≤ a ∧ a ≤ 8 → Ev (fun k => impl_IsLeague.j0 k x a b L) (!x && goodFrom a L 0 L.length) := by
    intro x ha
    cases x
    · exact Ev.step (f := fun k => impl_IsLeague.l0 k L (L.length : Int) ((0 : Nat) : Int) a b L) (fun k => by simp only [impl_IsLeague.j0]; rw [if_neg (by simp)]; rfl) (by simpa using isLeague_l0 L a b ha hl L.length 0 (by omega))
    · exact ev_some fun k => by simp [impl_IsLeague.j0]
  have hf : Ev (fun k => impl_IsLeague.j0 k true a b L) false := ev_some fun k => by simp [impl_IsLeague.j0]
  by_cases ha : 2 ≤ a ∧ a ≤ 8
  · by_cases hb : 2 ≤ b ∧ b ≤ 3
    · simp only [ha, hb, and_self, decide_true, if_true, Bool.true_and]
      exact hj _ ha
    · simp only [ha, hb, and_self, decide_true, if_true, decide_false, Bool.false_and, Bool.and_false]
      exact hf
  · simp only [ha, decide_false, Bool.false_and]
    exact hf

/-! what is known of a good league -/
theorem okR_of (T : Int) (L : List S51) (d : Nat) : ∀ i : Nat, i + d = L.length → goodFrom T L i d = true → ∀ j, i ≤ j → (h : j < L.length) → okR T L[j] = true := by
  induction d with
  | zero => intro i hi _ j h1 h; omega
  | succ d ih =>
    intro i hi hg j h1 h
    unfold goodFrom at hg
    simp only [Bool.and_eq_true] at hg
    by_cases e : j = i
    · subst e
      have eg : L.getD j z51 = L[j] := by simp [List.getD_eq_getElem?_getD, List.getElem?_eq_getElem h]
      rw [eg] at hg
      exact hg.1
    · exact ih (i + 1) (by omega) hg.2.2 j (by omega) h
structure Good (a b : Int) (L : List S51) : Prop where
  ha : 2 ≤ a ∧ a ≤ 8
  hb : 2 ≤ b ∧ b ≤ 3
  hl : L.length ≤ 56
  hr : ∀ j, (h : j < L.length) → (0 ≤ L[j].f0 ∧ L[j].f0 ≤ a - 1) ∧ (0 ≤ L[j].f1 ∧ L[j].f1 ≤ a - 1) ∧ ¬ L[j].f0 = L[j].f1 ∧ (0 ≤ L[j].f2 ∧ L[j].f2 ≤ 20) ∧ (0 ≤ L[j].f3 ∧ L[j].f3 ≤ 20)
theorem good_of {a b : Int} {L : List S51} (h : goodB a b L = true) : Good a b L := by
  unfold goodB at h
  simp only [Bool.and_eq_true, decide_eq_true_eq, Bool.not_eq_true', decide_eq_false_iff_not] at h
  obtain ⟨h1, h2, h3, h4⟩ := h
  refine ⟨h1, h2, by omega, fun j hj => ?_⟩
  have := okR_of a L L.length 0 (by omega) h4 j (by omega) hj
  unfold okR at this
  simpa only [Bool.and_eq_true, decide_eq_true_eq, Bool.not_eq_true', decide_eq_false_iff_not] using this


/-- A loop over a list, at the element r. -/
theorem at_split {L pre suf : List S51} {r : S51} (hL : L = pre ++ r :: suf) (hb : L.length ≤ 1048576) :
    L.length = pre.length + suf.length + 1 ∧ rd_T51 L (pre.length : Int) = r ∧ wrap64 ((pre.length : Int) + 1) = ((pre ++ [r]).length : Int) ∧ L = (pre ++ [r]) ++ suf := by
  have h1 : L.length = pre.length + suf.length + 1 := by rw [hL]; simp; omega
  refine ⟨h1, ?_, ?_, by rw [hL]; simp⟩
  · rw [hL]
    unfold rd_T51
    simp
  · rw [wrap_id (by omega) (by omega)]
    simp
theorem Good.mem {a b : Int} {L : List S51} (g : Good a b L) {r : S51} (h : r ∈ L) : (0 ≤ r.f0 ∧ r.f0 ≤ a - 1) ∧ (0 ≤ r.f1 ∧ r.f1 ≤ a - 1) ∧ ¬ r.f0 = r.f1 ∧ (0 ≤ r.f2 ∧ r.f2 ≤ 20) ∧ (0 ≤ r.f3 ∧ r.f3 ≤ 20) := by
  obtain ⟨j, hj, rfl⟩ := List.getElem_of_mem h
  exact g.hr j hj

theorem markResultS_l0 (n : Nat) : ∀ (x : List S51) (i : Nat) (a : Int), i + n = x.length → x.length ≤ 1048576 → 0 ≤ a → a + 4 * n ≤ 1000000000000000000 → ∃ y : List S51, Ev (fun k => laws_markResultS.l0 k x a (i : Int)) (a + 4 * n, y) := by
  induction n with
  | zero =>
    intro x i a hi hx h0 h1
    refine ⟨x, ev_some fun k => ?_⟩
    simp only [laws_markResultS.l0]
    rw [if_neg (by omega)]
    simp
  | succ n ih =>
    intro x i a hi hx h0 h1
    have w1 : wrap64 (a + 1) = a + 1 := wrap_id (by omega) (by omega)
    have w2 : wrap64 (a + 1 + 1) = a + 1 + 1 := wrap_id (by omega) (by omega)
    have w3 : wrap64 (a + 1 + 1 + 1) = a + 1 + 1 + 1 := wrap_id (by omega) (by omega)
    have w4 : wrap64 (a + 1 + 1 + 1 + 1) = a + 1 + 1 + 1 + 1 := wrap_id (by omega) (by omega)
    have w5 : wrap64 ((i : Int) + 1) = ((i + 1 : Nat) : Int) := by rw [wrap_id (by omega) (by omega)]; rfl
    have hstep : ∃ x' : List S51, x'.length = x.length ∧ ∀ k, laws_markResultS.l0 (k + 1) x a (i : Int) = laws_markResultS.l0 k x' (a + 1 + 1 + 1 + 1) ((i + 1 : Nat) : Int) := by
      refine ⟨?x, ?h1, ?h2⟩
      case h2 =>
        intro k
        simp only [laws_markResultS.l0]
        rw [if_pos (by omega), if_pos (by omega), w1, w2, w3, w4, w5]
        simp only [Option.bind_some]
        exact rfl
      case h1 => simp
    obtain ⟨x', hx', hs⟩ := hstep
    obtain ⟨y, hy⟩ := ih x' (i + 1) (a + 1 + 1 + 1 + 1) (by omega) (by omega) (by omega) (by omega)
    refine ⟨y, Ev.step hs ?_⟩
    have e : a + 1 + 1 + 1 + 1 + 4 * (n : Int) = a + 4 * ((n + 1 : Nat) : Int) := by omega
    rw [e] at hy
    exact hy
theorem markLeague_ev (p q : Int) (x : List S51) (hx : x.length ≤ 1048576) (a : Int) (h0 : 0 ≤ a) (h1 : a ≤ 1000) : ∃ y : List S51, Ev (fun k => laws_markLeague.f k p q x a) (a + 4 * x.length, y) := by
  obtain ⟨y, hy⟩ := markResultS_l0 x.length x 0 a (by omega) hx h0 (by omega)
  refine ⟨y, ?_⟩
  unfold laws_markLeague.f laws_markResultS.f
  exact Ev.bind (f := fun _ t => some (t.1, t.2)) hy (Ev.now _)

/-! marks: numbers in turn, written and read again -/
def seqFrom (a : Int) : Nat → List Int
  | 0 => []
  | n + 1 => a :: seqFrom (a + 1) n
theorem seqFrom_len (n : Nat) : ∀ a, (seqFrom a n).length = n := by
  induction n with
  | zero => intro a; rfl
  | succ n ih => intro a; simp [seqFrom, ih]
theorem mid_set (xs ys : List Int) (r v : Int) : (xs ++ r :: ys).set xs.length v = xs ++ v :: ys := by simp
theorem rd_mid (xs ys : List Int) (r : Int) : rd (xs ++ r :: ys) (xs.length : Int) = r := by unfold rd; simp
theorem markIntS_l0 (rest : List Int) : ∀ (done : List Int) (a : Int), done.length + rest.length ≤ 1048576 → 0 ≤ a → a + rest.length ≤ 1000000000000000000 →
    Ev (fun k => laws_markIntS.l0 k (done ++ rest) a (done.length : Int)) (a + rest.length, done ++ seqFrom a rest.length) := by
  induction rest with
  | nil =>
    intro done a hb h0 h1
    refine ev_some fun k => ?_
    simp only [laws_markIntS.l0]
    rw [if_neg (by simp)]
    simp [seqFrom]
  | cons r rest ih =>
    intro done a hb h0 h1
    simp only [List.length_cons] at hb h1
    have hi := ih (done ++ [a]) (a + 1) (by simp; omega) (by omega) (by omega)
    refine Ev.step (f := fun k => laws_markIntS.l0 k ((done ++ [a]) ++ rest) (a + 1) ((done ++ [a]).length : Int)) (fun k => ?_) ?_
    · simp only [laws_markIntS.l0]
      rw [if_pos (by simp; omega), if_pos (by omega), Int.toNat_natCast, mid_set, wrap_id (i := a + 1) (by omega) (by omega), wrap_id (i := (done.length : Int) + 1) (by omega) (by omega)]
      simp
    · have e : (a + 1) + (rest.length : Int) = a + ((r :: rest).length : Int) := by simp; omega
      rw [e] at hi
      simpa [seqFrom] using hi
theorem markIntS_ev (l : List Int) (hl : l.length ≤ 1048576) (a : Int) (h0 : 0 ≤ a) (h1 : a ≤ 100000000000000000) : Ev (fun k => laws_markIntS.f k l a) (a + l.length, seqFrom a l.length) := by
  have := markIntS_l0 l [] a (by simpa using hl) h0 (by omega)
  simpa [laws_markIntS.f] using this
theorem heldIntS_l0 (n : Nat) : ∀ (done : List Int) (a : Int), done.length + n ≤ 1048576 → 0 ≤ a → a + n ≤ 1000000000000000000 →
    Ev (fun k => laws_heldIntS.l0 k (done ++ seqFrom a n) a (done.length : Int)) (a + n) := by
  induction n with
  | zero =>
    intro done a hb h0 h1
    refine ev_some fun k => ?_
    simp only [laws_heldIntS.l0]
    rw [if_neg (by simp [seqFrom])]
    simp
  | succ n ih =>
    intro done a hb h0 h1
    have hi := ih (done ++ [a]) (a + 1) (by simp; omega) (by omega) (by omega)
    have hsz : (done ++ seqFrom a (n + 1)).length = done.length + n + 1 := by rw [List.length_append, seqFrom_len]; omega
    refine Ev.step (f := fun k => laws_heldIntS.l0 k ((done ++ [a]) ++ seqFrom (a + 1) n) (a + 1) ((done ++ [a]).length : Int)) (fun k => ?_) ?_
    · simp only [laws_heldIntS.l0]
      rw [if_pos (by omega), if_pos (by omega)]
      rw [show seqFrom a (n + 1) = a :: seqFrom (a + 1) n from rfl, rd_mid, if_pos rfl, wrap_id (i := a + 1) (by omega) (by omega), wrap_id (i := (done.length : Int) + 1) (by omega) (by omega)]
      simp
    · have e : (a + 1) + (n : Int) = a + ((n + 1 : Nat) : Int) := by omega
      rw [e] at hi
      exact hi
theorem heldIntS_ev (n : Nat) (hn : n ≤ 1048576) (a : Int) (h0 : 0 ≤ a) (h1 : a ≤ 100000000000000000) : Ev (fun k => laws_heldIntS.f k (seqFrom a n) a) (a + n) := by
  have := heldIntS_l0 n [] a (by simpa using hn) h0 (by omega)
  simpa [laws_heldIntS.f] using this
theorem eqIntS_l0 (l : List Int) (hl : l.length ≤ 1048576) (d : Nat) : ∀ i : Nat, i + d = l.length → Ev (fun k => laws_eqIntS.l0 k l l (i : Int)) true := by
  induction d with
  | zero =>
    intro i hi
    refine ev_some fun k => ?_
    simp only [laws_eqIntS.l0]
    rw [if_neg (by omega)]
  | succ d ih =>
    intro i hi
    refine Ev.step (f := fun k => laws_eqIntS.l0 k l l ((i + 1 : Nat) : Int)) (fun k => ?_) (ih (i + 1) (by omega))
    simp only [laws_eqIntS.l0]
    rw [if_pos (by omega), if_pos (by omega), if_pos (by omega)]
    simp only [if_true]
    rw [wrap_id (by omega) (by omega)]
    rfl
theorem eqIntS_ev (l : List Int) (hl : l.length ≤ 1048576) : Ev (fun k => laws_eqIntS.f k l l) true := by
  have := eqIntS_l0 l hl l.length 0 (by omega)
  simpa [laws_eqIntS.f] using this

/-! marks in rows of rows -/
theorem rdL_mid (xs ys : List (List Int)) (r : List Int) : rd_L3 (xs ++ r :: ys) (xs.length : Int) = r := by unfold rd_L3; simp
theorem setL_mid (xs ys : List (List Int)) (r v : List Int) : (xs ++ r :: ys).set xs.length v = xs ++ v :: ys := by simp
def totL : List (List Int) → Nat
  | [] => 0
  | x :: xs => x.length + totL xs
def mkL : Int → List (List Int) → List (List Int)
  | _, [] => []
  | a, x :: xs => seqFrom a x.length :: mkL (a + x.length) xs
theorem mkL_len : ∀ (rest : List (List Int)) (a : Int), (mkL a rest).length = rest.length
  | [], _ => rfl
  | x :: rest, a => by simp [mkL, mkL_len rest]
theorem markSS_l0 (rest : List (List Int)) : ∀ (done : List (List Int)) (a : Int), done.length + rest.length ≤ 1048576 → (∀ x ∈ rest, x.length ≤ 1048576) → 0 ≤ a → a + totL rest ≤ 100000000000000000 →
    Ev (fun k => laws_markIntSS.l0 k (done ++ rest) a (done.length : Int)) (a + totL rest, done ++ mkL a rest) := by
  induction rest with
  | nil =>
    intro done a hb hx h0 h1
    refine ev_some fun k => ?_
    simp only [laws_markIntSS.l0]
    rw [if_neg (by simp)]
    simp [mkL, totL]
  | cons r rest ih =>
    intro done a hb hx h0 h1
    simp only [List.length_cons, totL] at hb h1
    have hi := ih (done ++ [seqFrom a r.length]) (a + r.length) (by simp; omega) (fun x h => hx x (by simp [h])) (by omega) (by omega)
    refine Ev.step (f := fun k => (laws_markIntS.f k r a).bind fun bt => laws_markIntSS.l0 k ((done ++ r :: rest).set ((done.length : Nat) : Int).toNat bt.2) bt.1 (wrap64 ((done.length : Int) + 1))) (fun k => ?_) ?_
    · simp only [laws_markIntSS.l0]
      rw [if_pos (by simp; omega), if_pos (by omega), rdL_mid]
    · refine Ev.bind (markIntS_ev r (hx r (by simp)) a h0 (by omega)) ?_
      have e1 : (done ++ r :: rest).set ((done.length : Nat) : Int).toNat (seqFrom a r.length) = (done ++ [seqFrom a r.length]) ++ rest := by
        rw [Int.toNat_natCast, setL_mid]
        simp
      have e2 : wrap64 ((done.length : Int) + 1) = ((done ++ [seqFrom a r.length]).length : Int) := by rw [wrap_id (by omega) (by omega)]; simp
      have e3 : a + ((r.length + totL rest : Nat) : Int) = (a + r.length) + totL rest := by omega
      simp only [e1, e2]
      show Ev _ (a + ((r.length + totL rest : Nat) : Int), done ++ (seqFrom a r.length :: mkL (a + r.length) rest))
      rw [e3]
      simpa using hi
theorem markSS_ev (l : List (List Int)) (hl : l.length ≤ 1048576) (hx : ∀ x ∈ l, x.length ≤ 1048576) (ht : totL l ≤ 10000000000) : Ev (fun k => laws_markIntSS.f k l 1) (1 + totL l, mkL 1 l) := by
  have := markSS_l0 l [] 1 (by simpa using hl) hx (by omega) (by omega)
  simpa [laws_markIntSS.f] using this
theorem markN_ev (l : List (List Int)) (hl : l.length ≤ 1048576) (hx : ∀ x ∈ l, x.length ≤ 1048576) (ht : totL l ≤ 10000000000) : Ev (fun k => markN.f k l 1) (1 + totL l : Int) := by
  unfold markN.f
  exact Ev.bind (f := fun _ p => some p.1) (markSS_ev l hl hx ht) (Ev.now _)
theorem markRow_ev (l : List (List Int)) (hl : l.length ≤ 1048576) (hx : ∀ x ∈ l, x.length ≤ 1048576) (ht : totL l ≤ 10000000000) : Ev (fun k => markRow.f k l 1) (mkL 1 l) := by
  unfold markRow.f
  exact Ev.bind (f := fun _ p => some p.2) (markSS_ev l hl hx ht) (Ev.now _)
theorem heldSS_l0 (rest : List (List Int)) : ∀ (done : List (List Int)) (a : Int), done.length + rest.length ≤ 1048576 → (∀ x ∈ rest, x.length ≤ 1048576) → 0 ≤ a → a + totL rest ≤ 100000000000000000 →
    Ev (fun k => laws_heldIntSS.l0 k (done ++ mkL a rest) a (done.length : Int)) (a + totL rest) := by
  induction rest with
  | nil =>
    intro done a hb hx h0 h1
    refine ev_some fun k => ?_
    simp only [laws_heldIntSS.l0]
    rw [if_neg (by simp [mkL])]
    simp [totL]
  | cons r rest ih =>
    intro done a hb hx h0 h1
    simp only [List.length_cons, totL] at hb h1
    have hi := ih (done ++ [seqFrom a r.length]) (a + r.length) (by simp; omega) (fun x h => hx x (by simp [h])) (by omega) (by omega)
    refine Ev.step (f := fun k => (laws_heldIntS.f k (seqFrom a r.length) a).bind fun t => if t < 0 then some (-1) else laws_heldIntSS.l0 k (done ++ mkL a (r :: rest)) t (wrap64 ((done.length : Int) + 1))) (fun k => ?_) ?_
    · simp only [laws_heldIntSS.l0]
      rw [if_pos (by simp [mkL]; omega), if_pos (by omega)]
      rw [show mkL a (r :: rest) = seqFrom a r.length :: mkL (a + r.length) rest from rfl, rdL_mid]
    · refine Ev.bind (heldIntS_ev r.length (hx r (by simp)) a h0 (by omega)) ?_
      have e2 : wrap64 ((done.length : Int) + 1) = ((done ++ [seqFrom a r.length]).length : Int) := by rw [wrap_id (by omega) (by omega)]; simp
      have e3 : a + ((totL (r :: rest) : Nat) : Int) = (a + r.length) + totL rest := by simp only [totL]; omega
      have e4 : done ++ mkL a (r :: rest) = (done ++ [seqFrom a r.length]) ++ mkL (a + r.length) rest := by simp [mkL]
      simp only [if_neg (show ¬ (a + (r.length : Int)) < 0 by omega), e2, e3, e4]
      exact hi
theorem heldSS_ev (l : List (List Int)) (hl : l.length ≤ 1048576) (hx : ∀ x ∈ l, x.length ≤ 1048576) (ht : totL l ≤ 10000000000) : Ev (fun k => laws_heldIntSS.f k (mkL 1 l) 1) (1 + totL l : Int) := by
  have := heldSS_l0 l [] 1 (by simpa using hl) hx (by omega) (by omega)
  simpa [laws_heldIntSS.f] using this
theorem eqSS_l0 (l : List (List Int)) (hl : l.length ≤ 1048576) (hx : ∀ x ∈ l, x.length ≤ 1048576) (d : Nat) : ∀ i : Nat, i + d = l.length → Ev (fun k => laws_eqIntSS.l0 k l l (i : Int)) true := by
  induction d with
  | zero =>
    intro i hi
    refine ev_some fun k => ?_
    simp only [laws_eqIntSS.l0]
    rw [if_neg (by omega)]
  | succ d ih =>
    intro i hi
    have hlt : i < l.length := by omega
    have hr : rd_L3 l (i : Int) = l[i] := by unfold rd_L3; simp [List.getD_eq_getElem?_getD, List.getElem?_eq_getElem hlt]
    refine Ev.step (f := fun k => (laws_eqIntS.f k l[i] l[i]).bind fun t => if t = true then laws_eqIntSS.l0 k l l ((i + 1 : Nat) : Int) else some false) (fun k => ?_) ?_
    · simp only [laws_eqIntSS.l0]
      rw [if_pos (by omega), if_pos (by omega), if_pos (by omega), hr, wrap_id (by omega) (by omega)]
      rfl
    · refine Ev.bind (eqIntS_ev l[i] (hx _ (List.getElem_mem hlt))) ?_
      simp only [if_true]
      exact ih (i + 1) (by omega)
theorem eqSS_ev (l : List (List Int)) (hl : l.length ≤ 1048576) (hx : ∀ x ∈ l, x.length ≤ 1048576) : Ev (fun k => laws_eqIntSS.f k l l) true := by
  have := eqSS_l0 l hl hx l.length 0 (by omega)
  simpa [laws_eqIntSS.f] using this
theorem totL_two (l : List (List Int)) (h : ∀ x ∈ l, x.length ≤ 2) : totL l ≤ 2 * l.length := by
  induction l with
  | nil => simp [totL]
  | cons x xs ih =>
    have h1 := h x (by simp)
    have h2 := ih (fun y hy => h y (by simp [hy]))
    simp only [totL, List.length_cons]
    omega

/-! the games that are left -/
def playedG (L : List S51) (h w : Int) : Bool := (h == w) || L.any fun s => decide (s.f0 = h ∧ s.f1 = w)
def cellG (L : List S51) (h w : Int) : List (List Int) := if playedG L h w = true then [] else [[h, w]]
def lrow (L : List S51) (h : Int) : Nat → Nat → List (List Int)
  | _, 0 => []
  | j, d + 1 => cellG L h (j : Int) ++ lrow L h (j + 1) d
def lall (L : List S51) (T : Nat) : Nat → Nat → List (List Int)
  | _, 0 => []
  | i, d + 1 => lrow L (i : Int) 0 T ++ lall L T (i + 1) d
theorem cellG_len (L : List S51) (h w : Int) : (cellG L h w).length ≤ 1 := by
  unfold cellG
  split <;> simp
theorem lrow_len (L : List S51) (h : Int) : ∀ d j, (lrow L h j d).length ≤ d
  | 0, _ => by simp [lrow]
  | d + 1, j => by
    have h1 := cellG_len L h (j : Int)
    have h2 := lrow_len L h d (j + 1)
    simp only [lrow, List.length_append]
    omega
theorem lall_len (L : List S51) (T : Nat) (hT : T ≤ 8) : ∀ d i, (lall L T i d).length ≤ 8 * d
  | 0, _ => by simp [lall]
  | d + 1, i => by
    have h1 := lrow_len L (i : Int) T 0
    have h2 := lall_len L T hT d (i + 1)
    simp only [lall, List.length_append]
    omega
theorem lrow_two (L : List S51) (h : Int) : ∀ d j, ∀ x ∈ lrow L h j d, x.length ≤ 2
  | 0, _, x, hx => by simp [lrow] at hx
  | d + 1, j, x, hx => by
    simp only [lrow, List.mem_append] at hx
    rcases hx with hx | hx
    · unfold cellG at hx
      split at hx
      · simp at hx
      · rw [List.mem_singleton.1 hx]; simp
    · exact lrow_two L h d (j + 1) x hx
theorem lall_two (L : List S51) (T : Nat) : ∀ d i, ∀ x ∈ lall L T i d, x.length ≤ 2
  | 0, _, x, hx => by simp [lall] at hx
  | d + 1, i, x, hx => by
    simp only [lall, List.mem_append] at hx
    rcases hx with hx | hx
    · exact lrow_two L _ T 0 x hx
    · exact lall_two L T d (i + 1) x hx
theorem specLeft_l2 (a b : Int) (L : List S51) (hb : L.length ≤ 1048576) (x : List (List Int)) (hx : x.length ≤ 1000) (h w : Int) (res : List (List Int))
    (hk : Ev (fun k => spec_lgLeft.l1 k (x ++ cellG L h w) h (wrap64 (w + 1)) a b L) res) (suf : List S51) : ∀ (pre : List S51) (p : Bool), L = pre ++ suf → p = ((h == w) || pre.any fun s => decide (s.f0 = h ∧ s.f1 = w)) →
    Ev (fun k => spec_lgLeft.l2 k x h w p L (L.length : Int) (pre.length : Int) a b L) res := by
  induction suf with
  | nil =>
    intro pre p hL hp
    have h1 : L.length = pre.length := by rw [hL]; simp
    have h2 : L = pre := by rw [hL]; simp
    have hp2 : p = playedG L h w := by rw [hp, h2]; rfl
    unfold cellG at hk
    rw [← hp2] at hk
    cases p
    · simp only [Bool.false_eq_true, if_false] at hk
      refine Ev.step (fun k => ?_) hk
      simp only [spec_lgLeft.l2]
      rw [if_neg (by omega), if_neg (by simp), if_pos (by omega)]
    · simp only [if_true, List.append_nil] at hk
      refine Ev.step (fun k => ?_) hk
      simp only [spec_lgLeft.l2]
      rw [if_neg (by omega)]
      simp
  | cons r suf ih =>
    intro pre p hL hp
    obtain ⟨h1, h2, h3, h4⟩ := at_split hL hb
    have hi := ih (pre ++ [r]) (p || decide (r.f0 = h ∧ r.f1 = w)) h4 (by rw [hp]; simp [Bool.or_assoc])
    refine Ev.step (fun k => ?_) hi
    simp only [spec_lgLeft.l2]
    rw [if_pos (by omega), if_pos (by omega), if_pos (by omega), h2, h3]
    cases p
    · rw [if_neg (by simp)]
      by_cases e0 : r.f0 = h
      · rw [if_pos e0]
        have : (r.f1 == w) = (false || decide (r.f0 = h ∧ r.f1 = w)) := by
          by_cases e1 : r.f1 = w
          · simp [e0, e1]
          · simp [e1]
        rw [this]
      · rw [if_neg e0]
        have : false = (false || decide (r.f0 = h ∧ r.f1 = w)) := by simp [e0]
        rw [← this]
    · rw [if_pos rfl]
      rfl
theorem specLeft_l1 (a b : Int) (L : List S51) (hb : L.length ≤ 1048576) (h : Int) (res : List (List Int)) (d : Nat) : ∀ (j : Nat) (x : List (List Int)), ((j + d : Nat) : Int) = a → j + d ≤ 8 → x.length + d ≤ 1000 →
    Ev (fun k => spec_lgLeft.l0 k (x ++ lrow L h j d) (wrap64 (h + 1)) a b L) res → Ev (fun k => spec_lgLeft.l1 k x h (j : Int) a b L) res := by
  induction d with
  | zero =>
    intro j x hj h8 hx hk
    simp only [lrow, List.append_nil] at hk
    refine Ev.step (fun k => ?_) hk
    simp only [spec_lgLeft.l1]
    rw [if_neg (by omega)]
  | succ d ih =>
    intro j x hj h8 hx hk
    have hc := cellG_len L h (j : Int)
    simp only [lrow, ← List.append_assoc] at hk
    have h1 := ih (j + 1) (x ++ cellG L h (j : Int)) (by omega) (by omega) (by rw [List.length_append]; omega) hk
    have h2 := specLeft_l2 a b L hb x (by omega) h (j : Int) res (by rw [wrap_id (by omega) (by omega)]; exact h1) L [] (h == (j : Int)) rfl (by simp)
    refine Ev.step (fun k => ?_) h2
    simp only [spec_lgLeft.l1]
    rw [if_pos (by omega)]
    rfl
theorem specLeft_l0 (a b : Int) (L : List S51) (hb : L.length ≤ 1048576) (T : Nat) (hT : (T : Int) = a) (h8 : T ≤ 8) (d : Nat) : ∀ (i : Nat) (x : List (List Int)), i + d = T → x.length + 8 * d ≤ 900 →
    Ev (fun k => spec_lgLeft.l0 k x (i : Int) a b L) (x ++ lall L T i d) := by
  induction d with
  | zero =>
    intro i x hi hx
    refine ev_some fun k => ?_
    simp only [spec_lgLeft.l0, lall, List.append_nil]
    rw [if_neg (by omega)]
  | succ d ih =>
    intro i x hi hx
    have hl := lrow_len L (i : Int) T 0
    have h1 := ih (i + 1) (x ++ lrow L (i : Int) 0 T) (by omega) (by rw [List.length_append]; omega)
    have h2 := specLeft_l1 a b L hb (i : Int) _ T 0 x (by omega) (by omega) (by omega) (by rw [wrap_id (by omega) (by omega)]; exact h1)
    rw [List.append_assoc] at h2
    refine Ev.step (fun k => ?_) h2
    simp only [spec_lgLeft.l0]
    rw [if_pos (by omega)]
    rfl
theorem implLeft_l1 (a b : Int) (L : List S51) (h : Int) (res : List (List Int) × Bool) (d : Nat) : ∀ (j : Nat) (x : List (List Int)), ((j + d : Nat) : Int) = a → j + d ≤ 8 → x.length + d ≤ 1000 →
    Ev (fun k => impl_LeftResults.l0 k (x ++ lrow L h j d) a (wrap64 (h + 1)) a b L) res → Ev (fun k => impl_LeftResults.l1 k x h a h a (j : Int) a b L) res := by
  induction d with
  | zero =>
    intro j x hj h8 hx hk
    simp only [lrow, List.append_nil] at hk
    refine Ev.step (fun k => ?_) hk
    simp only [impl_LeftResults.l1]
    rw [if_neg (by omega)]
  | succ d ih =>
    intro j x hj h8 hx hk
    have hc := cellG_len L h (j : Int)
    simp only [lrow, ← List.append_assoc] at hk
    have h1 := ih (j + 1) (x ++ cellG L h (j : Int)) (by omega) (by omega) (by rw [List.length_append]; omega) hk
    have hw : wrap64 ((j : Int) + 1) = ((j + 1 : Nat) : Int) := by rw [wrap_id (by omega) (by omega)]; omega
    refine Ev.step (fun k => ?_) h1
    simp only [impl_LeftResults.l1]
    rw [if_pos (by omega), hw]
    by_cases e : h = (j : Int)
    · rw [if_pos e]
      have : cellG L h (j : Int) = [] := by unfold cellG playedG; rw [if_pos (by simp [e])]
      rw [this, List.append_nil]
    · rw [if_neg e]
      unfold hasGame.f
      rw [Option.bind_some]
      by_cases g : (L.any fun s => decide (s.f0 = h ∧ s.f1 = (j : Int))) = true
      · rw [if_pos g]
        have : cellG L h (j : Int) = [] := by unfold cellG playedG; rw [if_pos (by rw [g, Bool.or_true])]
        rw [this, List.append_nil]
      · rw [if_neg g, if_pos (by omega)]
        have : cellG L h (j : Int) = [[h, (j : Int)]] := by
          unfold cellG playedG
          rw [if_neg]
          rw [Bool.eq_false_iff.2 g, Bool.or_false, beq_iff_eq]
          exact e
        rw [this]
theorem implLeft_l0 (a b : Int) (L : List S51) (T : Nat) (hT : (T : Int) = a) (h8 : T ≤ 8) (d : Nat) : ∀ (i : Nat) (x : List (List Int)), i + d = T → x.length + 8 * d ≤ 900 →
    Ev (fun k => impl_LeftResults.l0 k x a (i : Int) a b L) (x ++ lall L T i d, true) := by
  induction d with
  | zero =>
    intro i x hi hx
    refine ev_some fun k => ?_
    simp only [impl_LeftResults.l0, lall, List.append_nil]
    rw [if_neg (by omega)]
  | succ d ih =>
    intro i x hi hx
    have hl := lrow_len L (i : Int) T 0
    have h1 := ih (i + 1) (x ++ lrow L (i : Int) 0 T) (by omega) (by rw [List.length_append]; omega)
    have h2 := implLeft_l1 a b L (i : Int) _ T 0 x (by omega) (by omega) (by omega) (by rw [wrap_id (by omega) (by omega)]; exact h1)
    rw [List.append_assoc] at h2
    refine Ev.step (fun k => ?_) h2
    simp only [impl_LeftResults.l0]
    rw [if_pos (by omega)]
    rfl

theorem FnExactLeftResults : ∀ (a0_0 : Int) (a0_1 : Int) (l0_2 : List S48), (Lit.int .i64 a0_0).wf = true → (Lit.int .i64 a0_1).wf = true → l0_2.length ≤ 9223372036854775807 → ∃ k, laws_FnExactLeftResults.f k a0_0 a0_1 l0_2 = some true := by
  intro a b l _ _ hl
  refine Ev.rounds ?_
  obtain ⟨z, hz, hc⟩ := szLeague_eq a b l hl
  unfold laws_FnExactLeftResults.f
  simp only [hz, Option.bind_some]
  by_cases h : z < 0
  · simp only [h, if_true]
    exact Ev.now _
  · simp only [h, if_false]
    have hl2 : l.length ≤ 1048576 := by omega
    have hL : (l.map conv).length ≤ 1048576 := by simpa using hl2
    have both : ∃ v : List (List Int) × Bool, (v.1.length ≤ 1000 ∧ ∀ x ∈ v.1, x.length ≤ 2) ∧ Ev (fun k => spec_LeftResults.f k a b (l.map conv)) v ∧ Ev (fun k => impl_LeftResults.f k a b (l.map conv)) v := by
      unfold spec_LeftResults.f impl_LeftResults.f
      cases ht : goodB a b (l.map conv)
      · refine ⟨([], false), by simp, Ev.bind (lgGood_ev a b _ hL) ?_, Ev.bind (isLeague_ev a b _ hL) ?_⟩
        · simp only [ht, Bool.false_eq_true, if_false]
          exact Ev.now _
        · simp only [ht, Bool.false_eq_true, if_false]
          exact Ev.now _
      · have g := good_of ht
        have ha := g.ha
        have hll := lall_len (l.map conv) a.toNat (by omega) a.toNat 0
        refine ⟨(lall (l.map conv) a.toNat 0 a.toNat, true), ⟨by show (lall (l.map conv) a.toNat 0 a.toNat).length ≤ 1000; omega, lall_two _ _ _ _⟩, Ev.bind (lgGood_ev a b _ hL) ?_, Ev.bind (isLeague_ev a b _ hL) ?_⟩
        · simp only [ht, if_true]
          have h0 := specLeft_l0 a b (l.map conv) hL a.toNat (by omega) (by omega) a.toNat 0 [] (by omega) (by simp; omega)
          exact Ev.bind (f := fun _ t => some (t, true)) (by simpa [spec_lgLeft.f] using h0) (Ev.now _)
        · simp only [ht, if_true]
          have h0 := implLeft_l0 a b (l.map conv) a.toNat (by omega) (by omega) a.toNat 0 [] (by omega) (by simp; omega)
          simpa using h0
    obtain ⟨⟨v, f⟩, hv, hs, hi⟩ := both
    obtain ⟨hv1, hv2⟩ := hv
    simp only at hv1 hv2
    have hx : ∀ x ∈ v, x.length ≤ 1048576 := fun x hx => by have := hv2 x hx; omega
    have ht2 := totL_two v hv2
    have hm := markN_ev v (by omega) hx (by omega)
    have hr := markRow_ev v (by omega) hx (by omega)
    have hh := heldSS_ev v (by omega) hx (by omega)
    have he := eqSS_ev v (by omega) hx
    have h2 : Ev (fun k => laws_FnExactLeftResults.j2 k (mkL 1 v) (1 + totL v) false) true := by
      refine Ev.step (f := fun k => (laws_heldIntSS.f k (mkL 1 v) 1).bind fun t => if t < 0 then some false else if t = 1 + (totL v : Int) then some true else some false) (fun k => by simp [laws_FnExactLeftResults.j2]) ?_
      refine Ev.bind hh ?_
      simp only [if_neg (show ¬ (1 + (totL v : Int)) < 0 by omega), if_true]
      exact Ev.now _
    have h1 : Ev (fun k => laws_FnExactLeftResults.j1 k v f v false a b l) true := by
      refine Ev.step (f := fun k => (markN.f k v 1).bind fun n => (markRow.f k v 1).bind fun p => (laws_heldIntSS.f k p 1).bind fun t => if t < 0 then some false else if t = n then (laws_toLeague.f k a b l).bind fun q => (impl_LeftResults.f k q.1 q.2.1 q.2.2).bind fun s => (laws_eqIntSS.f k s.1 v).bind fun u => if u = true then laws_FnExactLeftResults.j2 k p n (s.2 != f) else laws_FnExactLeftResults.j2 k p n true else some false) (fun k => by simp [laws_FnExactLeftResults.j1]) ?_
      refine Ev.bind hm ?_
      refine Ev.bind hr ?_
      refine Ev.bind hh ?_
      simp only [if_neg (show ¬ (1 + (totL v : Int)) < 0 by omega), if_true]
      refine Ev.bind (toLeague_ev a b l hl2) ?_
      refine Ev.bind hi ?_
      refine Ev.bind he ?_
      simpa using h2
    obtain ⟨y, hy⟩ := markLeague_ev a b (l.map conv) hL 1 (by omega) (by omega)
    have h0 : Ev (fun k => laws_FnExactLeftResults.j0 k v f v f false a b l a b (l.map conv)) true := by
      refine Ev.step (f := fun k => (laws_toLeague.f k a b l).bind fun p => (laws_eqLeague.f k a b (l.map conv) p.1 p.2.1 p.2.2).bind fun t => if t = true then (laws_markLeague.f k a b (l.map conv) 1).bind fun q => if q.1 < 0 then laws_FnExactLeftResults.j1 k v f v true a b l else (laws_eqIntSS.f k v v).bind fun s => if s = true then laws_FnExactLeftResults.j1 k v f v (f != f) a b l else laws_FnExactLeftResults.j1 k v f v true a b l else some false) (fun k => by simp [laws_FnExactLeftResults.j0]) ?_
      refine Ev.bind (toLeague_ev a b l hl2) ?_
      refine Ev.bind (eqLeague_ev a b _ hL) ?_
      simp only [if_true]
      refine Ev.bind hy ?_
      simp only [if_neg (show ¬ (1 + 4 * ((l.map conv).length : Int)) < 0 by omega)]
      refine Ev.bind he ?_
      simpa using h1
    refine Ev.bind (toLeague_ev a b l hl2) ?_
    refine Ev.bind hs ?_
    refine Ev.bind (toLeague_ev a b l hl2) ?_
    refine Ev.bind hi ?_
    refine Ev.bind he ?_
    simpa using h0

end Go.Proofs.Ytolcneiniojdfaa.Pure
