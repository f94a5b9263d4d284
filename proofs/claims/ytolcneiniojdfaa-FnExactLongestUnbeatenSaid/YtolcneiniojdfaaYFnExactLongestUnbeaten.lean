/- What the printed functions of FnExactLongestUnbeaten compute answers true, at every argument of its types. No condition beside the types' own bounds. -/
import Derived.Test.YtolcneiniojdfaaQFnExactLongestUnbeatenx
namespace Go.Proofs.Ytolcneiniojdfaa.Pure
open Go.RowKit Go.Proofs.Ytolcneiniojdfaa.QFnExactLongestUnbeaten Go.Proofs.YtolcneiniojdfaaW.PrintWords Go.Proofs.YtolcneiniojdfaaW.PrintLast Go.Proofs.YtolcneiniojdfaaW.PrintMore
set_option linter.unusedVariables false
set_option linter.unusedSimpArgs false

theorem ev_some {α : Type} {g : Nat → Option α} {r : α} (h : ∀ k, g (k + 1) = some r) : Ev g r := Ev.step h (Ev.now r)
theorem ev_const {α : Type} {g : Nat → Option α} {r : α} (h : ∀ k, g k = some r) : Ev g r := ⟨0, fun k _ => h k⟩
theorem wrap_id {i : Int} (h0 : -9223372036854775808 ≤ i) (h1 : i ≤ 9223372036854775807) : wrap64 i = i := by unfold wrap64; omega
theorem l1In_eq (a b c : Int) : spec_l1In.f a b c = some (decide (b ≤ a ∧ a ≤ c)) := by
  unfold spec_l1In.f
  by_cases h : a ≥ b
  · rw [if_pos h]
    have h2 : b ≤ a := h
    simp [h2]
  · rw [if_neg h]
    have h2 : ¬ b ≤ a := h
    simp [h2]
def conv (s : S48) : S51 := ⟨s.f0, s.f1, s.f2, s.f3⟩
theorem rdA (l : List S48) (n : Nat) (h : n < l.length) : rd_T48 l (n : Int) = l[n] := by
  unfold rd_T48
  simp [List.getD_eq_getElem?_getD, List.getElem?_eq_getElem h]
theorem rdB (l : List S51) (n : Nat) (h : n < l.length) : rd_T51 l (n : Int) = l[n] := by
  unfold rd_T51
  simp [List.getD_eq_getElem?_getD, List.getElem?_eq_getElem h]

theorem szLeague_eq (a b : Int) (l : List S48) (hl : l.length ≤ 9223372036854775807) : ∃ t, laws_szLeague.f a b l 1048576 = some t ∧ (t < 0 ∨ l.length ≤ 1048576) := by
  unfold laws_szLeague.f laws_szResultS.f
  by_cases h : wrap64 (1048576 - (l.length : Int)) < 0
  · refine ⟨-1, ?_, Or.inl (by omega)⟩
    rw [if_pos h]
    rfl
  · refine ⟨wrap64 (1048576 - (l.length : Int)), ?_, Or.inr ?_⟩
    · rw [if_neg h]
      simp only [Option.bind_some]
      rw [if_neg h]
    · unfold wrap64 at h
      omega

theorem toResultS_l0 (l : List S48) (hl : l.length ≤ 1048576) (d : Nat) : ∀ (i : Nat) (x : List S51), i + d = l.length → x.length = l.length → (∀ j, j < i → x[j]? = (l.map conv)[j]?) → Ev (fun k => laws_toResultS.l0 k l x (i : Int)) (l.map conv) := by
  induction d with
  | zero =>
    intro i x hi hx hp
    refine ev_some fun k => ?_
    simp only [laws_toResultS.l0]
    rw [if_neg (by omega)]
    congr 1
    apply List.ext_getElem?
    intro j
    by_cases hj : j < i
    · exact hp j hj
    · rw [List.getElem?_eq_none (by omega), List.getElem?_eq_none (by simp; omega)]
  | succ d ih =>
    intro i x hi hx hp
    have hlt : i < l.length := by omega
    refine Ev.step (f := fun k => laws_toResultS.l0 k l (x.set i (conv l[i])) ((i + 1 : Nat) : Int)) (fun k => ?_) (ih (i + 1) (x.set i (conv l[i])) (by omega) (by rw [List.length_set]; exact hx) ?_)
    · simp only [laws_toResultS.l0]
      rw [if_pos (by omega), if_pos (by omega), rdA l i hlt]
      simp only [laws_toResult.f, Option.bind_some]
      rw [if_pos (by omega), wrap_id (by omega) (by omega), Int.toNat_natCast]
      rfl
    · intro j hj
      by_cases e : j = i
      · subst e
        rw [List.getElem?_set_self (by omega)]
        simp [hlt]
      · rw [List.getElem?_set_ne (by omega)]
        exact hp j (by omega)
theorem toResultS_ev (l : List S48) (hl : l.length ≤ 1048576) : Ev (fun k => laws_toResultS.f k l) (l.map conv) := by
  refine Ev.congr (f := fun k => laws_toResultS.l0 k l (List.replicate l.length z51) ((0 : Nat) : Int)) (fun k => ?_) (toResultS_l0 l hl l.length 0 (List.replicate l.length z51) (by omega) List.length_replicate (fun j hj => by omega))
  unfold laws_toResultS.f
  rw [if_pos (by omega), if_pos (by omega)]
  simp
theorem toLeague_ev (a b : Int) (l : List S48) (hl : l.length ≤ 1048576) : Ev (fun k => laws_toLeague.f k a b l) (a, b, l.map conv) := by
  unfold laws_toLeague.f
  exact Ev.bind (f := fun _ t => some (a, b, t)) (toResultS_ev l hl) (Ev.now _)

theorem eqResultS_l0 (L : List S51) (hl : L.length ≤ 1048576) (d : Nat) : ∀ i : Nat, i + d = L.length → Ev (fun k => laws_eqResultS.l0 k L L (i : Int)) true := by
  induction d with
  | zero =>
    intro i hi
    refine ev_some fun k => ?_
    simp only [laws_eqResultS.l0]
    rw [if_neg (by omega)]
  | succ d ih =>
    intro i hi
    refine Ev.step (f := fun k => laws_eqResultS.l0 k L L ((i + 1 : Nat) : Int)) (fun k => ?_) (ih (i + 1) (by omega))
    simp only [laws_eqResultS.l0]
    rw [if_pos (by omega), if_pos (by omega), if_pos (by omega)]
    have e : ∀ a b c d : Int, laws_eqResult.f a b c d a b c d = some true := fun a b c d => by simp [laws_eqResult.f]
    rw [e, wrap_id (by omega) (by omega)]
    rfl
theorem eqResultS_ev (L : List S51) (hl : L.length ≤ 1048576) : Ev (fun k => laws_eqResultS.f k L L) true := by
  refine Ev.congr (f := fun k => laws_eqResultS.l0 k L L ((0 : Nat) : Int)) (fun k => ?_) (eqResultS_l0 L hl L.length 0 (by omega))
  unfold laws_eqResultS.f
  rw [if_pos rfl]
  rfl
theorem eqLeague_ev (a b : Int) (L : List S51) (hl : L.length ≤ 1048576) : Ev (fun k => laws_eqLeague.f k a b L a b L) true := by
  refine Ev.congr (f := fun k => (laws_eqResultS.f k L L).bind fun t => if t = true then some true else some false) (fun k => ?_) (Ev.bind (f := fun _ t => if t = true then some true else some false) (eqResultS_ev L hl) (Ev.now _))
  unfold laws_eqLeague.f
  rw [if_pos rfl, if_pos rfl]

/-! what a good league is -/
def okR (T : Int) (r : S51) : Bool := decide (0 ≤ r.f0 ∧ r.f0 ≤ T - 1) && (decide (0 ≤ r.f1 ∧ r.f1 ≤ T - 1) && (!decide (r.f0 = r.f1) && (decide (0 ≤ r.f2 ∧ r.f2 ≤ 20) && decide (0 ≤ r.f3 ∧ r.f3 ≤ 20))))
def seenB (L : List S51) (i : Nat) (x y : Int) : Bool := (L.take i).any fun s => decide (s.f0 = x ∧ s.f1 = y)
def goodFrom (T : Int) (L : List S51) : Nat → Nat → Bool
  | _, 0 => true
  | i, d + 1 => okR T (L.getD i z51) && (!seenB L i (L.getD i z51).f0 (L.getD i z51).f1 && goodFrom T L (i + 1) d)
def goodB (a b : Int) (L : List S51) : Bool := decide (2 ≤ a ∧ a ≤ 8) && (decide (2 ≤ b ∧ b ≤ 3) && (!decide ((L.length : Int) > 56) && goodFrom a L 0 L.length))

theorem lgResult_eq (T : Int) (hT : 2 ≤ T ∧ T ≤ 8) (r : S51) : spec_lgResult.f T r.f0 r.f1 r.f2 r.f3 = some (okR T r) := by
  unfold spec_lgResult.f okR
  simp only [l1In_eq, wrap_id (i := T - 1) (by omega) (by omega), Option.bind_some]
  by_cases h2 : r.f0 = r.f1
  · cases decide (0 ≤ r.f0 ∧ r.f0 ≤ T - 1) <;> cases decide (0 ≤ r.f1 ∧ r.f1 ≤ T - 1) <;> cases decide (0 ≤ r.f2 ∧ r.f2 ≤ 20) <;> cases decide (0 ≤ r.f3 ∧ r.f3 ≤ 20) <;> simp [h2]
  · cases decide (0 ≤ r.f0 ∧ r.f0 ≤ T - 1) <;> cases decide (0 ≤ r.f1 ∧ r.f1 ≤ T - 1) <;> cases decide (0 ≤ r.f2 ∧ r.f2 ≤ 20) <;> cases decide (0 ≤ r.f3 ∧ r.f3 ≤ 20) <;> simp [h2]

theorem lgGood_l1 (L : List S51) (n a b : Int) (i : Nat) (hi : i < 1048576) (y : List S51) (x0 x1 x2 x3 : Int) (res : Bool) (hy : y.length ≤ 1048576) (hk : Ev (fun k => spec_lgGood.l0 k L n ((i + 1 : Nat) : Int) a b L) res) (d : Nat) :
    ∀ j : Nat, j + d = y.length → Ev (fun k => spec_lgGood.l1 k L n (i : Int) y (y.length : Int) (j : Int) a b L x0 x1 x2 x3) (!(y.drop j).any (fun s => decide (s.f0 = x0 ∧ s.f1 = x1)) && res) := by
  induction d with
  | zero =>
    intro j hj
    rw [List.drop_eq_nil_of_le (by omega)]
    simp only [List.any_nil, Bool.not_false, Bool.true_and]
    refine Ev.step (f := fun k => spec_lgGood.l0 k L n ((i + 1 : Nat) : Int) a b L) (fun k => ?_) hk
    simp only [spec_lgGood.l1]
    rw [if_neg (by omega), wrap_id (by omega) (by omega)]
    rfl
  | succ d ih =>
    intro j hj
    have hlt : j < y.length := by omega
    rw [List.drop_eq_getElem_cons hlt, List.any_cons]
    by_cases e : y[j].f0 = x0 ∧ y[j].f1 = x1
    · simp only [e, and_self, decide_true, Bool.true_or, Bool.not_true, Bool.false_and]
      refine ev_some fun k => ?_
      simp only [spec_lgGood.l1]
      rw [if_pos (by omega), if_pos (by omega), if_pos (by omega), rdB y j hlt, if_pos e.1, if_pos e.2]
    · simp only [e, decide_false, Bool.false_or]
      refine Ev.step (f := fun k => spec_lgGood.l1 k L n (i : Int) y (y.length : Int) ((j + 1 : Nat) : Int) a b L x0 x1 x2 x3) (fun k => ?_) (ih (j + 1) (by omega))
      simp only [spec_lgGood.l1]
      rw [if_pos (by omega), if_pos (by omega), if_pos (by omega), rdB y j hlt, wrap_id (by omega) (by omega)]
      by_cases e0 : y[j].f0 = x0
      · rw [if_pos e0, if_neg (fun e1 => e ⟨e0, e1⟩)]
        rfl
      · rw [if_neg e0]
        rfl

theorem lgGood_l0 (L : List S51) (a b : Int) (ha : 2 ≤ a ∧ a ≤ 8) (hl : L.length ≤ 1048576) (d : Nat) : ∀ i : Nat, i + d = L.length → Ev (fun k => spec_lgGood.l0 k L (L.length : Int) (i : Int) a b L) (goodFrom a L i d) := by
  induction d with
  | zero =>
    intro i hi
    refine ev_some fun k => ?_
    simp only [spec_lgGood.l0]
    rw [if_neg (by omega)]
    rfl
  | succ d ih =>
    intro i hi
    have hlt : i < L.length := by omega
    have eg : L.getD i z51 = L[i] := by simp [List.getD_eq_getElem?_getD, List.getElem?_eq_getElem hlt]
    unfold goodFrom
    rw [eg]
    have hmain : ∀ k, spec_lgGood.l0 (k + 1) L (L.length : Int) (i : Int) a b L = (if okR a L[i] = true then (spec_lgGood.l1 k L (L.length : Int) (i : Int) (L.take i) ((L.take i).length : Int) ((0 : Nat) : Int) a b L L[i].f0 L[i].f1 L[i].f2 L[i].f3) else some false) := by
      intro k
      simp only [spec_lgGood.l0]
      rw [if_pos (by omega), if_pos (by omega), if_pos (by omega), rdB L i hlt, lgResult_eq a ha]
      simp only [Option.bind_some]
      rw [if_pos (show (i : Int) ≤ (L.length : Int) by omega), Int.toNat_natCast]
      rfl
    by_cases hok : okR a L[i] = true
    · rw [hok]
      have hi2 := lgGood_l1 L (L.length : Int) a b i (by omega) (L.take i) L[i].f0 L[i].f1 L[i].f2 L[i].f3 _ (by simp; omega) (ih (i + 1) (by omega)) (L.take i).length 0 (by omega)
      refine Ev.step (fun k => (hmain k).trans (by rw [if_pos hok])) ?_
      simpa [seenB] using hi2
    · rw [Bool.not_eq_true] at hok
      rw [hok]
      refine ev_some fun k => (hmain k).trans (by rw [hok]; rfl)

theorem lgGood_ev (a b : Int) (L : List S51) (hl : L.length ≤ 1048576) : Ev (fun k => spec_lgGood.f k a b L) (goodB a b L) := by
  unfold spec_lgGood.f goodB
  simp only [l1In_eq, Option.bind_some]
  have hj : ∀ x : Bool, 2 ≤ a ∧ a ≤ 8 → Ev (fun k => spec_lgGood.j0 k x a b L) (!x && goodFrom a L 0 L.length) := by
    intro x ha
    cases x
    · exact Ev.step (f := fun k => spec_lgGood.l0 k L (L.length : Int) ((0 : Nat) : Int) a b L) (fun k => by simp only [spec_lgGood.j0]; rw [if_neg (by simp)]; rfl) (by simpa using lgGood_l0 L a b ha hl L.length 0 (by omega))
    · exact ev_some fun k => by simp [spec_lgGood.j0]
  have hf : Ev (fun k => spec_lgGood.j0 k true a b L) false := ev_some fun k => by simp [spec_lgGood.j0]
  by_cases ha : 2 ≤ a ∧ a ≤ 8
  · by_cases hb : 2 ≤ b ∧ b ≤ 3
    · simp only [ha, hb, and_self, decide_true, if_true, Bool.true_and]
      exact hj _ ha
    · simp only [ha, hb, and_self, decide_true, if_true, decide_false, Bool.false_and, Bool.and_false]
      exact hf
  · simp only [ha, decide_false, Bool.false_and]
    exact hf

theorem g_within_eq (a b c : Int) : g_within.f a b c = some (decide (b ≤ a ∧ a ≤ c)) := by
  unfold g_within.f
  by_cases h : b ≤ a
  · rw [if_pos h]
    simp [h]
  · rw [if_neg h]
    simp [h]
theorem seenHas_eq (L : List S51) (i : Nat) (x y : Int) : seenHas.f L (i : Int) x y = some (seenB L i x y) := by
  unfold seenHas.f seenL seenB
  rw [Int.toNat_natCast]
  congr 1
  rw [Bool.eq_iff_iff]
  simp only [decide_eq_true_eq, List.mem_reverse, List.mem_map, List.any_eq_true, Prod.mk.injEq]
theorem isLeague_l0 (L : List S51) (a b : Int) (ha : 2 ≤ a ∧ a ≤ 8) (hl : L.length ≤ 1048576) (d : Nat) : ∀ i : Nat, i + d = L.length → Ev (fun k => impl_IsLeague.l0 k L (L.length : Int) (i : Int) a b L) (goodFrom a L i d) := by
  induction d with
  | zero =>
    intro i hi
    refine ev_some fun k => ?_
    simp only [impl_IsLeague.l0]
    rw [if_neg (by omega)]
    rfl
  | succ d ih =>
    intro i hi
    have hlt : i < L.length := by omega
    have eg : L.getD i z51 = L[i] := by simp [List.getD_eq_getElem?_getD, List.getElem?_eq_getElem hlt]
    unfold goodFrom okR
    rw [eg]
    have hstep : wrap64 ((i : Int) + 1) = ((i + 1 : Nat) : Int) := by rw [wrap_id (by omega) (by omega)]; rfl
    have hmain : ∀ k, impl_IsLeague.l0 (k + 1) L (L.length : Int) (i : Int) a b L = (if ((decide (0 ≤ L[i].f0 ∧ L[i].f0 ≤ a - 1) && (decide (0 ≤ L[i].f1 ∧ L[i].f1 ≤ a - 1) && (!decide (L[i].f0 = L[i].f1) && (decide (0 ≤ L[i].f2 ∧ L[i].f2 ≤ 20) && decide (0 ≤ L[i].f3 ∧ L[i].f3 ≤ 20))))) && !seenB L i L[i].f0 L[i].f1) = true then impl_IsLeague.l0 k L (L.length : Int) ((i + 1 : Nat) : Int) a b L else some false) := by
      intro k
      simp only [impl_IsLeague.l0]
      rw [if_pos (by omega), if_pos (by omega), if_pos (by omega), rdB L i hlt, hstep]
      simp only [g_within_eq, seenHas_eq, wrap_id (i := a - 1) (by omega) (by omega), Option.bind_some]
      by_cases h2 : L[i].f0 = L[i].f1
      · cases decide (0 ≤ L[i].f0 ∧ L[i].f0 ≤ a - 1) <;> cases decide (0 ≤ L[i].f1 ∧ L[i].f1 ≤ a - 1) <;> simp [h2]
      · cases decide (0 ≤ L[i].f0 ∧ L[i].f0 ≤ a - 1) <;> cases decide (0 ≤ L[i].f1 ∧ L[i].f1 ≤ a - 1) <;> cases decide (0 ≤ L[i].f2 ∧ L[i].f2 ≤ 20) <;> cases decide (0 ≤ L[i].f3 ∧ L[i].f3 ≤ 20) <;> cases seenB L i L[i].f0 L[i].f1 <;> simp [h2]
    rw [← Bool.and_assoc]
    revert hmain
    generalize ((decide (0 ≤ L[i].f0 ∧ L[i].f0 ≤ a - 1) && (decide (0 ≤ L[i].f1 ∧ L[i].f1 ≤ a - 1) && (!decide (L[i].f0 = L[i].f1) && (decide (0 ≤ L[i].f2 ∧ L[i].f2 ≤ 20) && decide (0 ≤ L[i].f3 ∧ L[i].f3 ≤ 20))))) && !seenB L i L[i].f0 L[i].f1) = c
    intro hmain
    cases c
    · exact ev_some fun k => by rw [hmain k]; simp
    · exact Ev.step (fun k => (hmain k).trans (by rw [if_pos rfl])) (by simpa using ih (i + 1) (by omega))
theorem isLeague_ev (a b : Int) (L : List S51) (hl : L.length ≤ 1048576) : Ev (fun k => impl_IsLeague.f k a b L) (goodB a b L) := by
  unfold impl_IsLeague.f goodB
  simp only [g_within_eq, Option.bind_some]
  have hj : ∀ x : Bool, 2 ≤ a ∧ a ≤ 8 → Ev (fun k => impl_IsLeague.j0 k x a b L) (!x && goodFrom a L 0 L.length) := by
    intro x ha
    cases x
    · exact Ev.step (f := fun k => impl_IsLeague.l0 k L (L.length : Int) ((0 : Nat) : Int) a b L) (fun k => by simp only [impl_IsLeague.j0]; rw [if_neg (by simp)]; rfl) (by simpa using isLeague_l0 L a b ha hl L.length 0 (by omega))
    · exact ev_some fun k => by simp [impl_IsLeague.j0]
  have hf : Ev (fun k => impl_IsLeague.j0 k true a b L) false := ev_some fun k => by simp [impl_IsLeague.j0]
  by_cases ha : 2 ≤ a ∧ a ≤ 8
  · by_cases hb : 2 ≤ b ∧ b ≤ 3
    · simp only [ha, hb, and_self, decide_true, if_true, Bool.true_and]
      exact hj _ ha
    · simp only [ha, hb, and_self, decide_true, if_true, decide_false, Bool.false_and, Bool.and_false]
      exact hf
  · simp only [ha, decide_false, Bool.false_and]
    exact hf

/-! what is known of a good league -/
theorem okR_of (T : Int) (L : List S51) (d : Nat) : ∀ i : Nat, i + d = L.length → goodFrom T L i d = true → ∀ j, i ≤ j → (h : j < L.length) → okR T L[j] = true := by
  induction d with
  | zero => intro i hi _ j h1 h; omega
  | succ d ih =>
    intro i hi hg j h1 h
    unfold goodFrom at hg
    simp only [Bool.and_eq_true] at hg
    by_cases e : j = i
    · subst e
      have eg : L.getD j z51 = L[j] := by simp [List.getD_eq_getElem?_getD, List.getElem?_eq_getElem h]
      rw [eg] at hg
      exact hg.1
    · exact ih (i + 1) (by omega) hg.2.2 j (by omega) h
structure Good (a b : Int) (L : List S51) : Prop where
  ha : 2 ≤ a ∧ a ≤ 8
  hb : 2 ≤ b ∧ b ≤ 3
  hl : L.length ≤ 56
  hr : ∀ j, (h : j < L.length) → (0 ≤ L[j].f0 ∧ L[j].f0 ≤ a - 1) ∧ (0 ≤ L[j].f1 ∧ L[j].f1 ≤ a - 1) ∧ ¬ L[j].f0 = L[j].f1 ∧ (0 ≤ L[j].f2 ∧ L[j].f2 ≤ 20) ∧ (0 ≤ L[j].f3 ∧ L[j].f3 ≤ 20)
theorem good_of {a b : Int} {L : List S51} (h : goodB a b L = true) : Good a b L := by
  unfold goodB at h
  simp only [Bool.and_eq_true, decide_eq_true_eq, Bool.not_eq_true', decide_eq_false_iff_not] at h
  obtain ⟨h1, h2, h3, h4⟩ := h
  refine ⟨h1, h2, by omega, fun j hj => ?_⟩
  have := okR_of a L L.length 0 (by omega) h4 j (by omega) hj
  unfold okR at this
  simpa only [Bool.and_eq_true, decide_eq_true_eq, Bool.not_eq_true', decide_eq_false_iff_not] using this


theorem within_eq (a b c : Int) : impl_within.f a b c = some (decide (b ≤ a ∧ a ≤ c)) := by
  unfold impl_within.f
  by_cases h : b ≤ a
  · rw [if_pos h]
    simp [h]
  · rw [if_neg h]
    simp [h]
def teamB (a b : Int) (L : List S51) (t : Int) : Bool := goodB a b L && decide (0 ≤ t ∧ t ≤ a - 1)
theorem lgTeam_ev (a b : Int) (L : List S51) (t : Int) (hl : L.length ≤ 1048576) : Ev (fun k => spec_lgTeam.f k a b L t) (teamB a b L t) := by
  unfold spec_lgTeam.f teamB
  refine Ev.bind (lgGood_ev a b L hl) ?_
  cases h : goodB a b L
  · simp only [Bool.false_eq_true, if_false, Bool.false_and]
    exact Ev.now _
  · have g := (good_of h).ha
    simp only [l1In_eq, wrap_id (i := a - 1) (by omega) (by omega), if_true, Option.bind_some, Bool.true_and]
    exact Ev.now _
theorem isTeam_ev (a b : Int) (L : List S51) (t : Int) (hl : L.length ≤ 1048576) : Ev (fun k => impl_isTeam.f k a b L t) (teamB a b L t) := by
  unfold impl_isTeam.f teamB
  refine Ev.bind (isLeague_ev a b L hl) ?_
  cases h : goodB a b L
  · simp only [Bool.false_eq_true, if_false, Bool.false_and]
    exact Ev.now _
  · have g := (good_of h).ha
    simp only [within_eq, wrap_id (i := a - 1) (by omega) (by omega), if_true, Option.bind_some, Bool.true_and]
    exact Ev.now _
theorem team_of {a b : Int} {L : List S51} {t : Int} (h : teamB a b L t = true) : Good a b L ∧ 0 ≤ t ∧ t ≤ a - 1 := by
  unfold teamB at h
  simp only [Bool.and_eq_true, decide_eq_true_eq] at h
  exact ⟨good_of h.1, h.2⟩

/-- A loop over a list, at the element r. -/
theorem at_split {L pre suf : List S51} {r : S51} (hL : L = pre ++ r :: suf) (hb : L.length ≤ 1048576) :
    L.length = pre.length + suf.length + 1 ∧ rd_T51 L (pre.length : Int) = r ∧ wrap64 ((pre.length : Int) + 1) = ((pre ++ [r]).length : Int) ∧ L = (pre ++ [r]) ++ suf := by
  have h1 : L.length = pre.length + suf.length + 1 := by rw [hL]; simp; omega
  refine ⟨h1, ?_, ?_, by rw [hL]; simp⟩
  · rw [hL]
    unfold rd_T51
    simp
  · rw [wrap_id (by omega) (by omega)]
    simp
theorem Good.mem {a b : Int} {L : List S51} (g : Good a b L) {r : S51} (h : r ∈ L) : (0 ≤ r.f0 ∧ r.f0 ≤ a - 1) ∧ (0 ≤ r.f1 ∧ r.f1 ≤ a - 1) ∧ ¬ r.f0 = r.f1 ∧ (0 ≤ r.f2 ∧ r.f2 ≤ 20) ∧ (0 ≤ r.f3 ∧ r.f3 ≤ 20) := by
  obtain ⟨j, hj, rfl⟩ := List.getElem_of_mem h
  exact g.hr j hj

def games (t : Int) : List S51 → List S71
  | [] => []
  | r :: rs => if t = r.f0 then ⟨r.f2, r.f3⟩ :: games t rs else if t = r.f1 then ⟨r.f3, r.f2⟩ :: games t rs else games t rs
theorem games_len (t : Int) : ∀ L : List S51, (games t L).length ≤ L.length
  | [] => Nat.le_refl _
  | r :: rs => by
    have := games_len t rs
    unfold games
    split
    · simp; omega
    · split
      · simp; omega
      · simp; omega
theorem at_splitP {G pre suf : List S71} {r : S71} (hL : G = pre ++ r :: suf) (hb : G.length ≤ 1048576) :
    G.length = pre.length + suf.length + 1 ∧ rd_T71 G (pre.length : Int) = r ∧ wrap64 ((pre.length : Int) + 1) = ((pre ++ [r]).length : Int) ∧ G = (pre ++ [r]) ++ suf := by
  have h1 : G.length = pre.length + suf.length + 1 := by rw [hL]; simp; omega
  refine ⟨h1, ?_, ?_, by rw [hL]; simp⟩
  · rw [hL]
    unfold rd_T71
    simp
  · rw [wrap_id (by omega) (by omega)]
    simp
theorem ofTeam_l0 (L : List S51) (hb : L.length ≤ 1048576) (t : Int) (suf : List S51) : ∀ (pre : List S51) (acc : List S71), L = pre ++ suf → acc.length ≤ pre.length →
    Ev (fun k => impl_League_ofTeam.l0 k t acc L (L.length : Int) (pre.length : Int)) (acc ++ games t suf) := by
  induction suf with
  | nil =>
    intro pre acc hL ha
    have h1 : L.length = pre.length := by rw [hL]; simp
    refine ev_some fun k => ?_
    simp only [impl_League_ofTeam.l0]
    rw [if_neg (by omega)]
    simp [games]
  | cons r suf ih =>
    intro pre acc hL ha
    obtain ⟨h1, h2, h3, h4⟩ := at_split hL hb
    unfold games
    by_cases c0 : t = r.f0
    · rw [if_pos c0]
      refine Ev.step (f := fun k => impl_League_ofTeam.l0 k t (acc ++ [⟨r.f2, r.f3⟩]) L (L.length : Int) ((pre ++ [r]).length : Int)) (fun k => ?_) ?_
      · simp only [impl_League_ofTeam.l0]
        rw [if_pos (by omega), if_pos (by omega), if_pos (by omega), h2, if_pos c0, if_pos (by omega), h3]
      · have := ih (pre ++ [r]) (acc ++ [⟨r.f2, r.f3⟩]) h4 (by simp; omega)
        simpa using this
    · rw [if_neg c0]
      by_cases c1 : t = r.f1
      · rw [if_pos c1]
        refine Ev.step (f := fun k => impl_League_ofTeam.l0 k t (acc ++ [⟨r.f3, r.f2⟩]) L (L.length : Int) ((pre ++ [r]).length : Int)) (fun k => ?_) ?_
        · simp only [impl_League_ofTeam.l0]
          rw [if_pos (by omega), if_pos (by omega), if_pos (by omega), h2, if_neg c0, if_pos c1, if_pos (by omega), h3]
        · have := ih (pre ++ [r]) (acc ++ [⟨r.f3, r.f2⟩]) h4 (by simp; omega)
          simpa using this
      · rw [if_neg c1]
        refine Ev.step (f := fun k => impl_League_ofTeam.l0 k t acc L (L.length : Int) ((pre ++ [r]).length : Int)) (fun k => ?_) (ih (pre ++ [r]) acc h4 (by simp; omega))
        simp only [impl_League_ofTeam.l0]
        rw [if_pos (by omega), if_pos (by omega), if_pos (by omega), h2, if_neg c0, if_neg c1, h3]
theorem ofTeam_ev (a b : Int) (L : List S51) (hb : L.length ≤ 1048576) (t : Int) : Ev (fun k => impl_League_ofTeam.f k a b L t) (games t L) := by
  have := ofTeam_l0 L hb t L [] [] (by simp) (by simp)
  simpa [impl_League_ofTeam.f] using this
theorem lgMore_eq (r : S51) (t : Int) (h2 : 0 ≤ r.f2 ∧ r.f2 ≤ 20) (h3 : 0 ≤ r.f3 ∧ r.f3 ≤ 20) : spec_lgMore.f r.f0 r.f1 r.f2 r.f3 t = some (if t = r.f0 then (r.f2 - r.f3, true) else if t = r.f1 then (r.f3 - r.f2, true) else (0, false)) := by
  unfold spec_lgMore.f
  rw [wrap_id (i := r.f2 - r.f3) (by omega) (by omega), wrap_id (i := r.f3 - r.f2) (by omega) (by omega)]
  by_cases c0 : t = r.f0
  · rw [if_pos c0, if_pos c0]
  · rw [if_neg c0, if_neg c0]
    by_cases c1 : t = r.f1
    · rw [if_pos c1, if_pos c1]
    · rw [if_neg c1, if_neg c1]

def lub (best now : Int) : List S71 → Int × Bool
  | [] => (best, true)
  | g :: gs => if g.f0 < g.f1 then lub (mx best 0) 0 gs else lub (mx best (now + 1)) (now + 1) gs
theorem l1Most_eq (a b : Int) : spec_l1Most.f a b = some (mx a b) := by
  unfold spec_l1Most.f mx
  by_cases h : a > b
  · rw [if_pos h, if_neg (by omega)]
  · rw [if_neg h]
    by_cases h2 : a < b
    · rw [if_pos h2]
    · rw [if_neg h2]
      congr 1
      omega
theorem implLub_l0 (G : List S71) (hb : G.length ≤ 1048576) (suf : List S71) : ∀ (pre : List S71) (best now : Int), G = pre ++ suf → 0 ≤ now ∧ now ≤ pre.length →
    Ev (fun k => impl_LongestUnbeaten.l0 k best now G (G.length : Int) (pre.length : Int)) (lub best now suf) := by
  induction suf with
  | nil =>
    intro pre best now hL _
    have h1 : G.length = pre.length := by rw [hL]; simp
    refine ev_some fun k => ?_
    simp only [impl_LongestUnbeaten.l0]
    rw [if_neg (by omega)]
    rfl
  | cons r suf ih =>
    intro pre best now hL hn
    obtain ⟨h1, h2, h3, h4⟩ := at_splitP hL hb
    unfold lub
    have hlen : ((pre ++ [r]).length : Int) = pre.length + 1 := by simp
    by_cases c : r.f0 < r.f1
    · rw [if_pos c]
      refine Ev.step (f := fun k => impl_LongestUnbeaten.l0 k (mx best 0) 0 G (G.length : Int) ((pre ++ [r]).length : Int)) (fun k => ?_) (ih (pre ++ [r]) _ _ h4 (by omega))
      simp only [impl_LongestUnbeaten.l0]
      rw [if_pos (by omega), if_pos (by omega), if_pos (by omega), h2, if_pos c, h3]
    · rw [if_neg c]
      refine Ev.step (f := fun k => impl_LongestUnbeaten.l0 k (mx best (now + 1)) (now + 1) G (G.length : Int) ((pre ++ [r]).length : Int)) (fun k => ?_) (ih (pre ++ [r]) _ _ h4 (by omega))
      simp only [impl_LongestUnbeaten.l0]
      rw [if_pos (by omega), if_pos (by omega), if_pos (by omega), h2, if_neg c, h3, wrap_id (i := now + 1) (by omega) (by omega)]
theorem specLub_l0 (a b : Int) (L : List S51) (g : Good a b L) (t : Int) (suf : List S51) : ∀ (pre : List S51) (best now : Int), L = pre ++ suf → 0 ≤ now ∧ now ≤ pre.length →
    Ev (fun k => spec_LongestUnbeaten.l0 k t best now L (L.length : Int) (pre.length : Int)) (lub best now (games t suf)) := by
  have hb : L.length ≤ 1048576 := by have := g.hl; omega
  induction suf with
  | nil =>
    intro pre best now hL _
    have h1 : L.length = pre.length := by rw [hL]; simp
    refine ev_some fun k => ?_
    simp only [spec_LongestUnbeaten.l0]
    rw [if_neg (by omega)]
    rfl
  | cons r suf ih =>
    intro pre best now hL hn
    obtain ⟨h1, h2, h3, h4⟩ := at_split hL hb
    obtain ⟨_, _, _, hr2, hr3⟩ := g.mem (r := r) (by rw [hL]; simp)
    have hlen : ((pre ++ [r]).length : Int) = pre.length + 1 := by simp
    have hstep : ∀ k, spec_LongestUnbeaten.l0 (k + 1) t best now L (L.length : Int) (pre.length : Int) = (if (if t = r.f0 then (r.f2 - r.f3, true) else if t = r.f1 then (r.f3 - r.f2, true) else ((0 : Int), false)).2 = true then (if (if t = r.f0 then (r.f2 - r.f3, true) else if t = r.f1 then (r.f3 - r.f2, true) else ((0 : Int), false)).1 < 0 then spec_LongestUnbeaten.l0 k t (mx best 0) 0 L (L.length : Int) ((pre ++ [r]).length : Int) else spec_LongestUnbeaten.l0 k t (mx best (now + 1)) (now + 1) L (L.length : Int) ((pre ++ [r]).length : Int)) else spec_LongestUnbeaten.l0 k t best now L (L.length : Int) ((pre ++ [r]).length : Int)) := by
      intro k
      simp only [spec_LongestUnbeaten.l0]
      rw [if_pos (by omega), if_pos (by omega), if_pos (by omega), h2, h3, lgMore_eq r t hr2 hr3, l1Most_eq, l1Most_eq, wrap_id (i := now + 1) (by omega) (by omega)]
      rfl
    have hgo : ∀ x y : Int, Ev (fun k => if x - y < 0 then spec_LongestUnbeaten.l0 k t (mx best 0) 0 L (L.length : Int) ((pre ++ [r]).length : Int) else spec_LongestUnbeaten.l0 k t (mx best (now + 1)) (now + 1) L (L.length : Int) ((pre ++ [r]).length : Int)) (lub best now ((⟨x, y⟩ : S71) :: games t suf)) := by
      intro x y
      unfold lub
      by_cases c : x < y
      · have c1 : x - y < 0 := by omega
        simp only [c, c1, if_true]
        exact ih (pre ++ [r]) _ _ h4 (by omega)
      · have c1 : ¬ x - y < 0 := by omega
        simp only [c, c1, if_false]
        exact ih (pre ++ [r]) _ _ h4 (by omega)
    refine Ev.step hstep ?_
    unfold games
    by_cases c0 : t = r.f0
    · simp only [if_pos c0, if_true]
      exact hgo _ _
    · by_cases c1 : t = r.f1
      · simp only [if_neg c0, if_pos c1, if_true]
        exact hgo _ _
      · simp only [if_neg c0, if_neg c1, Bool.false_eq_true, if_false]
        exact ih (pre ++ [r]) _ _ h4 (by omega)

theorem FnExactLongestUnbeaten : ∀ (a0_0 : Int) (a0_1 : Int) (l0_2 : List S48) (a1 : Int), (Lit.int .i64 a0_0).wf = true → (Lit.int .i64 a0_1).wf = true → l0_2.length ≤ 9223372036854775807 → (Lit.int .i64 a1).wf = true → ∃ k, laws_FnExactLongestUnbeaten.f k a0_0 a0_1 l0_2 a1 = some true := by
  intro a b l t _ _ hl _
  refine Ev.rounds ?_
  obtain ⟨z, hz, hc⟩ := szLeague_eq a b l hl
  unfold laws_FnExactLongestUnbeaten.f
  simp only [hz, Option.bind_some]
  by_cases h : z < 0
  · simp only [h, if_true]
    exact Ev.now _
  · simp only [h, if_false]
    have hl2 : l.length ≤ 1048576 := by omega
    have hL : (l.map conv).length ≤ 1048576 := by simpa using hl2
    have both : ∃ v, Ev (fun k => spec_LongestUnbeaten.f k a b (l.map conv) t) v ∧ Ev (fun k => impl_LongestUnbeaten.f k a b (l.map conv) t) v := by
      unfold spec_LongestUnbeaten.f impl_LongestUnbeaten.f
      cases ht : teamB a b (l.map conv) t
      · refine ⟨(0, false), Ev.bind (lgTeam_ev a b _ t hL) ?_, Ev.bind (isTeam_ev a b _ t hL) ?_⟩
        · simp only [ht, Bool.false_eq_true, if_false]
          exact Ev.now _
        · simp only [ht, Bool.false_eq_true, if_false]
          exact Ev.now _
      · obtain ⟨g, _, _⟩ := team_of ht
        have h56 := g.hl
        have hg := games_len t (l.map conv)
        refine ⟨lub 0 0 (games t (l.map conv)), Ev.bind (lgTeam_ev a b _ t hL) ?_, Ev.bind (isTeam_ev a b _ t hL) ?_⟩
        · simp only [ht, if_true]
          have := specLub_l0 a b _ g t (l.map conv) [] 0 0 (by simp) (by simp)
          simpa using this
        · simp only [ht, if_true]
          refine Ev.bind (ofTeam_ev a b _ hL t) ?_
          have := implLub_l0 (games t (l.map conv)) (by omega) (games t (l.map conv)) [] 0 0 (by simp) (by simp)
          simpa using this
    obtain ⟨v, hs, hi⟩ := both
    have hj : Ev (fun k => laws_FnExactLongestUnbeaten.j0 k false a b l a b (l.map conv)) true := by
      refine Ev.step (f := fun k => (laws_toLeague.f k a b l).bind fun p => (laws_eqLeague.f k a b (l.map conv) p.1 p.2.1 p.2.2).bind fun t => if t = true then some true else some false) (fun k => by simp [laws_FnExactLongestUnbeaten.j0]) ?_
      refine Ev.bind (toLeague_ev a b l hl2) ?_
      refine Ev.bind (eqLeague_ev a b _ hL) ?_
      exact Ev.now _
    refine Ev.bind (toLeague_ev a b l hl2) ?_
    refine Ev.bind hs ?_
    refine Ev.bind (toLeague_ev a b l hl2) ?_
    refine Ev.bind hi ?_
    simpa using hj

end Go.Proofs.Ytolcneiniojdfaa.Pure
