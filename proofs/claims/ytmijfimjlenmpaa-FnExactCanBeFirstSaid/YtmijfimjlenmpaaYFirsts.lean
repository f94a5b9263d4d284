/- The pure part of CountFirsts and CanBeFirst: numbers and lists alone. -/
import Derived.Test.YtmijfimjlenmpaaQFnExactMostPointsx1
import Derived.Test.YtmijfimjlenmpaaQFnExactMostPointsx2
import Derived.Test.YtmijfimjlenmpaaQFnExactMostPointsx3
import Derived.Test.YtmijfimjlenmpaaQFnExactMostPointsx4
import Derived.Test.YtmijfimjlenmpaaQFnExactMostPointsx5
import Derived.Test.YtmijfimjlenmpaaGCF
import Derived.Test.YtmijfimjlenmpaaQFnExactCountFirstsx1
namespace Go.Proofs.Ytmijfimjlenmpaa.Pure
open Go.RowKit Go.Proofs.Ytmijfimjlenmpaa.QFnExactMostPoints Go.Proofs.YtmijfimjlenmpaaW.PrintWords Go.Proofs.YtmijfimjlenmpaaW.PrintLast Go.Proofs.YtmijfimjlenmpaaW.PrintMore
set_option linter.unusedVariables false
set_option linter.unusedSimpArgs false
set_option linter.unusedSectionVars false

theorem ev_some {α : Type} {g : Nat → Option α} {r : α} (h : ∀ k, g (k + 1) = some r) : Ev g r := Ev.step h (Ev.now r)
theorem ev_const {α : Type} {g : Nat → Option α} {r : α} (h : ∀ k, g k = some r) : Ev g r := ⟨0, fun k _ => h k⟩
theorem wrap_id {i : Int} (h0 : -9223372036854775808 ≤ i) (h1 : i ≤ 9223372036854775807) : wrap64 i = i := by unfold wrap64; omega
theorem l1In_eq (a b c : Int) : spec_l1In.f a b c = some (decide (b ≤ a ∧ a ≤ c)) := by
  unfold spec_l1In.f
  by_cases h : a ≥ b
  · rw [if_pos h]
    have h2 : b ≤ a := h
    simp [h2]
  · rw [if_neg h]
    have h2 : ¬ b ≤ a := h
    simp [h2]
def conv (s : S71) : S68 := ⟨s.f0, s.f1, s.f2, s.f3⟩
theorem rdA (l : List S71) (n : Nat) (h : n < l.length) : rd_T71 l (n : Int) = l[n] := by
  unfold rd_T71
  simp [List.getD_eq_getElem?_getD, List.getElem?_eq_getElem h]
theorem rdB (l : List S68) (n : Nat) (h : n < l.length) : rd_T68 l (n : Int) = l[n] := by
  unfold rd_T68
  simp [List.getD_eq_getElem?_getD, List.getElem?_eq_getElem h]

theorem szLeague_eq (a b : Int) (l : List S71) (hl : l.length ≤ 9223372036854775807) : ∃ t, laws_szLeague.f a b l 1048576 = some t ∧ (t < 0 ∨ l.length ≤ 1048576) := by
  unfold laws_szLeague.f laws_szResultS.f
  by_cases h : wrap64 (1048576 - (l.length : Int)) < 0
  · refine ⟨-1, ?_, Or.inl (by omega)⟩
    rw [if_pos h]
    rfl
  · refine ⟨wrap64 (1048576 - (l.length : Int)), ?_, Or.inr ?_⟩
    · rw [if_neg h]
      simp only [Option.bind_some]
      rw [if_neg h]
    · unfold wrap64 at h
      omega

theorem toResultS_l0 (l : List S71) (hl : l.length ≤ 1048576) (d : Nat) : ∀ (i : Nat) (x : List S68), i + d = l.length → x.length = l.length → (∀ j, j < i → x[j]? = (l.map conv)[j]?) → Ev (fun k => laws_toResultS.l0 k l x (i : Int)) (l.map conv) := by
  induction d with
  | zero =>
    intro i x hi hx hp
    refine ev_some fun k => ?_
    simp only [laws_toResultS.l0]
    rw [if_neg (by omega)]
    congr 1
    apply List.ext_getElem?
    intro j
    by_cases hj : j < i
    · exact hp j hj
    · rw [List.getElem?_eq_none (by omega), List.getElem?_eq_none (by simp; omega)]
  | succ d ih =>
    intro i x hi hx hp
    have hlt : i < l.length := by omega
    refine Ev.step (f := fun k => laws_toResultS.l0 k l (x.set i (conv l[i])) ((i + 1 : Nat) : Int)) (fun k => ?_) (ih (i + 1) (x.set i (conv l[i])) (by omega) (by rw [List.length_set]; exact hx) ?_)
    · simp only [laws_toResultS.l0]
      rw [if_pos (by omega), if_pos (by omega), rdA l i hlt]
      simp only [laws_toResult.f, Option.bind_some]
      rw [if_pos (by omega), wrap_id (by omega) (by omega), Int.toNat_natCast]
      rfl
    · intro j hj
      by_cases e : j = i
      · subst e
        rw [List.getElem?_set_self (by omega)]
        simp [hlt]
      · rw [List.getElem?_set_ne (by omega)]
        exact hp j (by omega)
theorem toResultS_ev (l : List S71) (hl : l.length ≤ 1048576) : Ev (fun k => laws_toResultS.f k l) (l.map conv) := by
  refine Ev.congr (f := fun k => laws_toResultS.l0 k l (List.replicate l.length z68) ((0 : Nat) : Int)) (fun k => ?_) (toResultS_l0 l hl l.length 0 (List.replicate l.length z68) (by omega) List.length_replicate (fun j hj => by omega))
  unfold laws_toResultS.f
  rw [if_pos (by omega), if_pos (by omega)]
  simp
theorem toLeague_ev (a b : Int) (l : List S71) (hl : l.length ≤ 1048576) : Ev (fun k => laws_toLeague.f k a b l) (a, b, l.map conv) := by
  unfold laws_toLeague.f
  exact Ev.bind (f := fun _ t => some (a, b, t)) (toResultS_ev l hl) (Ev.now _)

theorem eqResultS_l0 (L : List S68) (hl : L.length ≤ 1048576) (d : Nat) : ∀ i : Nat, i + d = L.length → Ev (fun k => laws_eqResultS.l0 k L L (i : Int)) true := by
  induction d with
  | zero =>
    intro i hi
    refine ev_some fun k => ?_
    simp only [laws_eqResultS.l0]
    rw [if_neg (by omega)]
  | succ d ih =>
    intro i hi
    refine Ev.step (f := fun k => laws_eqResultS.l0 k L L ((i + 1 : Nat) : Int)) (fun k => ?_) (ih (i + 1) (by omega))
    simp only [laws_eqResultS.l0]
    rw [if_pos (by omega), if_pos (by omega), if_pos (by omega)]
    have e : ∀ a b c d : Int, laws_eqResult.f a b c d a b c d = some true := fun a b c d => by simp [laws_eqResult.f]
    rw [e, wrap_id (by omega) (by omega)]
    rfl
theorem eqResultS_ev (L : List S68) (hl : L.length ≤ 1048576) : Ev (fun k => laws_eqResultS.f k L L) true := by
  refine Ev.congr (f := fun k => laws_eqResultS.l0 k L L ((0 : Nat) : Int)) (fun k => ?_) (eqResultS_l0 L hl L.length 0 (by omega))
  unfold laws_eqResultS.f
  rw [if_pos rfl]
  rfl
theorem eqLeague_ev (a b : Int) (L : List S68) (hl : L.length ≤ 1048576) : Ev (fun k => laws_eqLeague.f k a b L a b L) true := by
  refine Ev.congr (f := fun k => (laws_eqResultS.f k L L).bind fun t => if t = true then some true else some false) (fun k => ?_) (Ev.bind (f := fun _ t => if t = true then some true else some false) (eqResultS_ev L hl) (Ev.now _))
  unfold laws_eqLeague.f
  rw [if_pos rfl, if_pos rfl]

/-! what a good league is -/
def okR (T : Int) (r : S68) : Bool := decide (0 ≤ r.f0 ∧ r.f0 ≤ T - 1) && (decide (0 ≤ r.f1 ∧ r.f1 ≤ T - 1) && (!decide (r.f0 = r.f1) && (decide (0 ≤ r.f2 ∧ r.f2 ≤ 20) && decide (0 ≤ r.f3 ∧ r.f3 ≤ 20))))
def seenB (L : List S68) (i : Nat) (x y : Int) : Bool := (L.take i).any fun s => decide (s.f0 = x ∧ s.f1 = y)
def goodFrom (T : Int) (L : List S68) : Nat → Nat → Bool
  | _, 0 => true
  | i, d + 1 => okR T (L.getD i z68) && (!seenB L i (L.getD i z68).f0 (L.getD i z68).f1 && goodFrom T L (i + 1) d)
def goodB (a b : Int) (L : List S68) : Bool := decide (2 ≤ a ∧ a ≤ 8) && (decide (2 ≤ b ∧ b ≤ 3) && (!decide ((L.length : Int) > 56) && goodFrom a L 0 L.length))

theorem lgResult_eq (T : Int) (hT : 2 ≤ T ∧ T ≤ 8) (r : S68) : spec_lgResult.f T r.f0 r.f1 r.f2 r.f3 = some (okR T r) := by
  unfold spec_lgResult.f okR
  simp only [l1In_eq, wrap_id (i := T - 1) (by omega) (by omega), Option.bind_some]
  by_cases h2 : r.f0 = r.f1
  · cases decide (0 ≤ r.f0 ∧ r.f0 ≤ T - 1) <;> cases decide (0 ≤ r.f1 ∧ r.f1 ≤ T - 1) <;> cases decide (0 ≤ r.f2 ∧ r.f2 ≤ 20) <;> cases decide (0 ≤ r.f3 ∧ r.f3 ≤ 20) <;> simp [h2]
  · cases decide (0 ≤ r.f0 ∧ r.f0 ≤ T - 1) <;> cases decide (0 ≤ r.f1 ∧ r.f1 ≤ T - 1) <;> cases decide (0 ≤ r.f2 ∧ r.f2 ≤ 20) <;> cases decide (0 ≤ r.f3 ∧ r.f3 ≤ 20) <;> simp [h2]

theorem lgGood_l1 (L : List S68) (n a b : Int) (i : Nat) (hi : i < 1048576) (y : List S68) (x0 x1 x2 x3 : Int) (res : Bool) (hy : y.length ≤ 1048576) (hk : Ev (fun k => spec_lgGood.l0 k L n ((i + 1 : Nat) : Int) a b L) res) (d : Nat) :
    ∀ j : Nat, j + d = y.length → Ev (fun k => spec_lgGood.l1 k L n (i : Int) y (y.length : Int) (j : Int) a b L x0 x1 x2 x3) (!(y.drop j).any (fun s => decide (s.f0 = x0 ∧ s.f1 = x1)) && res) := by
  induction d with
  | zero =>
    intro j hj
    rw [List.drop_eq_nil_of_le (by omega)]
    simp only [List.any_nil, Bool.not_false, Bool.true_and]
    refine Ev.step (f := fun k => spec_lgGood.l0 k L n ((i + 1 : Nat) : Int) a b L) (fun k => ?_) hk
    simp only [spec_lgGood.l1]
    rw [if_neg (by omega), wrap_id (by omega) (by omega)]
    rfl
  | succ d ih =>
    intro j hj
    have hlt : j < y.length := by omega
    rw [List.drop_eq_getElem_cons hlt, List.any_cons]
    by_cases e : y[j].f0 = x0 ∧ y[j].f1 = x1
    · simp only [e, and_self, decide_true, Bool.true_or, Bool.not_true, Bool.false_and]
      refine ev_some fun k => ?_
      simp only [spec_lgGood.l1]
      rw [if_pos (by omega), if_pos (by omega), if_pos (by omega), rdB y j hlt, if_pos e.1, if_pos e.2]
    · simp only [e, decide_false, Bool.false_or]
      refine Ev.step (f := fun k => spec_lgGood.l1 k L n (i : Int) y (y.length : Int) ((j + 1 : Nat) : Int) a b L x0 x1 x2 x3) (fun k => ?_) (ih (j + 1) (by omega))
      simp only [spec_lgGood.l1]
      rw [if_pos (by omega), if_pos (by omega), if_pos (by omega), rdB y j hlt, wrap_id (by omega) (by omega)]
      by_cases e0 : y[j].f0 = x0
      · rw [if_pos e0, if_neg (fun e1 => e ⟨e0, e1⟩)]
        rfl
      · rw [if_neg e0]
        rfl

theorem lgGood_l0 (L : List S68) (a b : Int) (ha : 2 ≤ a ∧ a ≤ 8) (hl : L.length ≤ 1048576) (d : Nat) : ∀ i : Nat, i + d = L.length → Ev (fun k => spec_lgGood.l0 k L (L.length : Int) (i : Int) a b L) (goodFrom a L i d) := by
  induction d with
  | zero =>
    intro i hi
    refine ev_some fun k => ?_
    simp only [spec_lgGood.l0]
    rw [if_neg (by omega)]
    rfl
  | succ d ih =>
    intro i hi
    have hlt : i < L.length := by omega
    have eg : L.getD i z68 = L[i] := by simp [List.getD_eq_getElem?_getD, List.getElem?_eq_getElem hlt]
    unfold goodFrom
    rw [eg]
    have hmain : ∀ k, spec_lgGood.l0 (k + 1) L (L.length : Int) (i : Int) a b L = (if okR a L[i] = true then (spec_lgGood.l1 k L (L.length : Int) (i : Int) (L.take i) ((L.take i).length : Int) ((0 : Nat) : Int) a b L L[i].f0 L[i].f1 L[i].f2 L[i].f3) else some false) := by
      intro k
      simp only [spec_lgGood.l0]
      rw [if_pos (by omega), if_pos (by omega), if_pos (by omega), rdB L i hlt, lgResult_eq a ha]
      simp only [Option.bind_some]
      rw [if_pos (show (i : Int) ≤ (L.length : Int) by omega), Int.toNat_natCast]
      rfl
    by_cases hok : okR a L[i] = true
    · rw [hok]
      have hi2 := lgGood_l1 L (L.length : Int) a b i (by omega) (L.take i) L[i].f0 L[i].f1 L[i].f2 L[i].f3 _ (by simp; omega) (ih (i + 1) (by omega)) (L.take i).length 0 (by omega)
      refine Ev.step (fun k => (hmain k).trans (by rw [if_pos hok])) ?_
      simpa [seenB] using hi2
    · rw [Bool.not_eq_true] at hok
      rw [hok]
      refine ev_some fun k => (hmain k).trans (by rw [hok]; rfl)

theorem lgGood_ev (a b : Int) (L : List S68) (hl : L.length ≤ 1048576) : Ev (fun k => spec_lgGood.f k a b L) (goodB a b L) := by
  unfold spec_lgGood.f goodB
  simp only [l1In_eq, Option.bind_some]
  have hj : ∀ x : Bool, 2 ≤ a ∧ a ≤ 8 → Ev (fun k => spec_lgGood.j0 k x a b L) (!x && goodFrom a L 0 L.length) := by
    intro x ha
    cases x
    · exact Ev.step (f := fun k => spec_lgGood.l0 k L (L.length : Int) ((0 : Nat) : Int) a b L) (fun k => by simp only [spec_lgGood.j0]; rw [if_neg (by simp)]; rfl) (by simpa using lgGood_l0 L a b ha hl L.length 0 (by omega))
    · exact ev_some fun k => by simp [spec_lgGood.j0]
  have hf : Ev (fun k => spec_lgGood.j0 k true a b L) false := ev_some fun k => by simp [spec_lgGood.j0]
  by_cases ha : 2 ≤ a ∧ a ≤ 8
  · by_cases hb : 2 ≤ b ∧ b ≤ 3
    · simp only [ha, hb, and_self, decide_true, if_true, Bool.true_and]
      exact hj _ ha
    · simp only [ha, hb, and_self, decide_true, if_true, decide_false, Bool.false_and, Bool.and_false]
      exact hf
  · simp only [ha, decide_false, Bool.false_and]
    exact hf

theorem g_within_eq (a b c : Int) : g_within.f a b c = some (decide (b ≤ a ∧ a ≤ c)) := by
  unfold g_within.f
  by_cases h : b ≤ a
  · rw [if_pos h]
    simp [h]
  · rw [if_neg h]
    simp [h]
theorem seenHas_eq (L : List S68) (i : Nat) (x y : Int) : seenHas.f L (i : Int) x y = some (seenB L i x y) := by
  unfold seenHas.f seenL seenB
  rw [Int.toNat_natCast]
  congr 1
  rw [Bool.eq_iff_iff]
  simp only [decide_eq_true_eq, List.mem_reverse, List.mem_map, List.any_eq_true, Prod.mk.injEq]
theorem isLeague_l0 (L : List S68) (a b : Int) (ha : 2 ≤ a ∧ a ≤ 8) (hl : L.length ≤ 1048576) (d : Nat) : ∀ i : Nat, i + d = L.length → Ev (fun k => impl_IsLeague.l0 k L (L.length : Int) (i : Int) a b L) (goodFrom a L i d) := by
  induction d with
  | zero =>
    intro i hi
    refine ev_some fun k => ?_
    simp only [impl_IsLeague.l0]
    rw [if_neg (by omega)]
    rfl
  | succ d ih =>
    intro i hi
    have hlt : i < L.length := by omega
    have eg : L.getD i z68 = L[i] := by simp [List.getD_eq_getElem?_getD, List.getElem?_eq_getElem hlt]
    unfold goodFrom okR
    rw [eg]
    have hstep : wrap64 ((i : Int) + 1) = ((i + 1 : Nat) : Int) := by rw [wrap_id (by omega) (by omega)]; rfl
    have hmain : ∀ k, impl_IsLeague.l0 (k + 1) L (L.length : Int) (i : Int) a b L = (if ((decide (0 ≤ L[i].f0 ∧ L[i].f0 ≤ a - 1) && (decide (0 ≤ L[i].f1 ∧ L[i].f1 ≤ a - 1) && (!decide (L[i].f0 = L[i].f1) && (decide (0 ≤ L[i].f2 ∧ L[i].f2 ≤ 20) && decide (0 ≤ L[i].f3 ∧ L[i].f3 ≤ 20))))) && !seenB L i L[i].f0 L[i].f1) = true then impl_IsLeague.l0 k L (L.length : Int) ((i + 1 : Nat) : Int) a b L else some false) := by
      intro k
      simp only [impl_IsLeague.l0]
      rw [if_pos (by omega), if_pos (by omega), if_pos (by omega), rdB L i hlt, hstep]
      simp only [g_within_eq, seenHas_eq, wrap_id (i := a - 1) (by omega) (by omega), Option.bind_some]
      by_cases h2 : L[i].f0 = L[i].f1
      · cases decide (0 ≤ L[i].f0 ∧ L[i].f0 ≤ a - 1) <;> cases decide (0 ≤ L[i].f1 ∧ L[i].f1 ≤ a - 1) <;> simp [h2]
      · cases decide (0 ≤ L[i].f0 ∧ L[i].f0 ≤ a - 1) <;> cases decide (0 ≤ L[i].f1 ∧ L[i].f1 ≤ a - 1) <;> cases decide (0 ≤ L[i].f2 ∧ L[i].f2 ≤ 20) <;> cases decide (0 ≤ L[i].f3 ∧ L[i].f3 ≤ 20) <;> cases seenB L i L[i].f0 L[i].f1 <;> simp [h2]
    rw [← Bool.and_assoc]
    revert hmain
    generalize ((decide (0 ≤ L[i].f0 ∧ L[i].f0 ≤ a - 1) && (decide (0 ≤ L[i].f1 ∧ L[i].f1 ≤ a - 1) && (!decide (L[i].f0 = L[i].f1) && (decide (0 ≤ L[i].f2 ∧ L[i].f2 ≤ 20) && decide (0 ≤ L[i].f3 ∧ L[i].f3 ≤ 20))))) && !seenB L i L[i].f0 L[i].f1) = c
    intro hmain
    cases c
    · exact ev_some fun k => by rw [hmain k]; simp
    · exact Ev.step (fun k => (hmain k).trans (by rw [if_pos rfl])) (by simpa using ih (i + 1) (by omega))
theorem isLeague_ev (a b : Int) (L : List S68) (hl : L.length ≤ 1048576) : Ev (fun k => impl_IsLeague.f k a b L) (goodB a b L) := by
  unfold impl_IsLeague.f goodB
  simp only [g_within_eq, Option.bind_some]
  have hj : ∀ x : Bool, 2 ≤ a ∧ a ≤ 8 → Ev (fun k => impl_IsLeague.j0 k x a b L) (!x && goodFrom a L 0 L.length) := by
    intro x ha
    cases x
    · exact Ev.step (f := fun k => impl_IsLeague.l0 k L (L.length : Int) ((0 : Nat) : Int) a b L) (fun k => by simp only [impl_IsLeague.j0]; rw [if_neg (by simp)]; rfl) (by simpa using isLeague_l0 L a b ha hl L.length 0 (by omega))
    · exact ev_some fun k => by simp [impl_IsLeague.j0]
  have hf : Ev (fun k => impl_IsLeague.j0 k true a b L) false := ev_some fun k => by simp [impl_IsLeague.j0]
  by_cases ha : 2 ≤ a ∧ a ≤ 8
  · by_cases hb : 2 ≤ b ∧ b ≤ 3
    · simp only [ha, hb, and_self, decide_true, if_true, Bool.true_and]
      exact hj _ ha
    · simp only [ha, hb, and_self, decide_true, if_true, decide_false, Bool.false_and, Bool.and_false]
      exact hf
  · simp only [ha, decide_false, Bool.false_and]
    exact hf

/-! what is known of a good league -/
theorem okR_of (T : Int) (L : List S68) (d : Nat) : ∀ i : Nat, i + d = L.length → goodFrom T L i d = true → ∀ j, i ≤ j → (h : j < L.length) → okR T L[j] = true := by
  induction d with
  | zero => intro i hi _ j h1 h; omega
  | succ d ih =>
    intro i hi hg j h1 h
    unfold goodFrom at hg
    simp only [Bool.and_eq_true] at hg
    by_cases e : j = i
    · subst e
      have eg : L.getD j z68 = L[j] := by simp [List.getD_eq_getElem?_getD, List.getElem?_eq_getElem h]
      rw [eg] at hg
      exact hg.1
    · exact ih (i + 1) (by omega) hg.2.2 j (by omega) h
structure Good (a b : Int) (L : List S68) : Prop where
  ha : 2 ≤ a ∧ a ≤ 8
  hb : 2 ≤ b ∧ b ≤ 3
  hl : L.length ≤ 56
  hr : ∀ j, (h : j < L.length) → (0 ≤ L[j].f0 ∧ L[j].f0 ≤ a - 1) ∧ (0 ≤ L[j].f1 ∧ L[j].f1 ≤ a - 1) ∧ ¬ L[j].f0 = L[j].f1 ∧ (0 ≤ L[j].f2 ∧ L[j].f2 ≤ 20) ∧ (0 ≤ L[j].f3 ∧ L[j].f3 ≤ 20)
theorem good_of {a b : Int} {L : List S68} (h : goodB a b L = true) : Good a b L := by
  unfold goodB at h
  simp only [Bool.and_eq_true, decide_eq_true_eq, Bool.not_eq_true', decide_eq_false_iff_not] at h
  obtain ⟨h1, h2, h3, h4⟩ := h
  refine ⟨h1, h2, by omega, fun j hj => ?_⟩
  have := okR_of a L L.length 0 (by omega) h4 j (by omega) hj
  unfold okR at this
  simpa only [Bool.and_eq_true, decide_eq_true_eq, Bool.not_eq_true', decide_eq_false_iff_not] using this


/-- A loop over a list, at the element r. -/
theorem at_split {L pre suf : List S68} {r : S68} (hL : L = pre ++ r :: suf) (hb : L.length ≤ 1048576) :
    L.length = pre.length + suf.length + 1 ∧ rd_T68 L (pre.length : Int) = r ∧ wrap64 ((pre.length : Int) + 1) = ((pre ++ [r]).length : Int) ∧ L = (pre ++ [r]) ++ suf := by
  have h1 : L.length = pre.length + suf.length + 1 := by rw [hL]; simp; omega
  refine ⟨h1, ?_, ?_, by rw [hL]; simp⟩
  · rw [hL]
    unfold rd_T68
    simp
  · rw [wrap_id (by omega) (by omega)]
    simp
theorem Good.mem {a b : Int} {L : List S68} (g : Good a b L) {r : S68} (h : r ∈ L) : (0 ≤ r.f0 ∧ r.f0 ≤ a - 1) ∧ (0 ≤ r.f1 ∧ r.f1 ≤ a - 1) ∧ ¬ r.f0 = r.f1 ∧ (0 ≤ r.f2 ∧ r.f2 ≤ 20) ∧ (0 ≤ r.f3 ∧ r.f3 ≤ 20) := by
  obtain ⟨j, hj, rfl⟩ := List.getElem_of_mem h
  exact g.hr j hj

theorem within_eq (a b c : Int) : impl_within.f a b c = some (decide (b ≤ a ∧ a ≤ c)) := by
  unfold impl_within.f
  by_cases h : b ≤ a
  · rw [if_pos h]
    simp [h]
  · rw [if_neg h]
    simp [h]
def teamB (a b : Int) (L : List S68) (t : Int) : Bool := goodB a b L && decide (0 ≤ t ∧ t ≤ a - 1)
theorem lgTeam_ev (a b : Int) (L : List S68) (t : Int) (hl : L.length ≤ 1048576) : Ev (fun k => spec_lgTeam.f k a b L t) (teamB a b L t) := by
  unfold spec_lgTeam.f teamB
  refine Ev.bind (lgGood_ev a b L hl) ?_
  cases h : goodB a b L
  · simp only [Bool.false_eq_true, if_false, Bool.false_and]
    exact Ev.now _
  · have g := (good_of h).ha
    simp only [l1In_eq, wrap_id (i := a - 1) (by omega) (by omega), if_true, Option.bind_some, Bool.true_and]
    exact Ev.now _
theorem isTeam_ev (a b : Int) (L : List S68) (t : Int) (hl : L.length ≤ 1048576) : Ev (fun k => impl_isTeam.f k a b L t) (teamB a b L t) := by
  unfold impl_isTeam.f teamB
  refine Ev.bind (isLeague_ev a b L hl) ?_
  cases h : goodB a b L
  · simp only [Bool.false_eq_true, if_false, Bool.false_and]
    exact Ev.now _
  · have g := (good_of h).ha
    simp only [within_eq, wrap_id (i := a - 1) (by omega) (by omega), if_true, Option.bind_some, Bool.true_and]
    exact Ev.now _
theorem team_of {a b : Int} {L : List S68} {t : Int} (h : teamB a b L t = true) : Good a b L ∧ 0 ≤ t ∧ t ≤ a - 1 := by
  unfold teamB at h
  simp only [Bool.and_eq_true, decide_eq_true_eq] at h
  exact ⟨good_of h.1, h.2⟩

theorem rd_nat (xs : List Int) (n : Nat) (h : n < xs.length) : rd xs (n : Int) = xs[n] := by
  unfold rd
  simp [List.getD_eq_getElem?_getD, List.getElem?_eq_getElem h]
theorem rd_set_same (xs : List Int) (i v : Int) (h0 : 0 ≤ i) (h1 : i < (xs.length : Int)) : rd (xs.set i.toNat v) i = v := by
  unfold rd
  rw [List.getD_eq_getElem?_getD, List.getElem?_set_self (by omega)]
  rfl
theorem rd_set_other (xs : List Int) (i j v : Int) (h0 : 0 ≤ i) (h2 : 0 ≤ j) (hne : i ≠ j) : rd (xs.set i.toNat v) j = rd xs j := by
  unfold rd
  rw [List.getD_eq_getElem?_getD, List.getElem?_set_ne (by omega), ← List.getD_eq_getElem?_getD]
theorem set_rd (xs : List Int) (i : Int) (h0 : 0 ≤ i) (h1 : i < (xs.length : Int)) : xs.set i.toNat (rd xs i) = xs := by
  apply List.ext_getElem?
  intro j
  by_cases e : j = i.toNat
  · subst e
    rw [List.getElem?_set_self (by omega)]
    unfold rd
    rw [List.getD_eq_getElem?_getD, List.getElem?_eq_getElem (by omega)]
    rfl
  · rw [List.getElem?_set_ne (by omega)]
/-- Every element lies between 0 and c. -/
def Upto (c : Int) (xs : List Int) : Prop := ∀ i : Int, 0 ≤ i → i < (xs.length : Int) → 0 ≤ rd xs i ∧ rd xs i ≤ c
theorem Upto.set {c c' : Int} {xs : List Int} (h : Upto c xs) (hc : c ≤ c') {i v : Int} (h0 : 0 ≤ i) (hv : 0 ≤ v ∧ v ≤ c') : Upto c' (xs.set i.toNat v) := by
  intro j hj0 hj1
  rw [List.length_set] at hj1
  by_cases e : i = j
  · subst e
    rw [rd_set_same xs i v h0 hj1]
    exact hv
  · rw [rd_set_other xs i j v h0 hj0 e]
    have := h j hj0 hj1
    omega
theorem Upto.mono {c c' : Int} {xs : List Int} (h : Upto c xs) (hc : c ≤ c') : Upto c' xs := fun j h0 h1 => by have := h j h0 h1; omega
theorem Upto.zeros (n : Nat) : Upto 0 (List.replicate n 0) := by
  intro j h0 h1
  rw [List.length_replicate] at h1
  unfold rd
  rw [List.getD_eq_getElem?_getD, List.getElem?_replicate, if_pos (by omega)]
  simp
/-- What a result adds to the points. -/
def addP (win : Int) (xs : List Int) (r : S68) : List Int :=
  if r.f2 > r.f3 then xs.set r.f0.toNat (rd xs r.f0 + win)
  else if r.f2 < r.f3 then xs.set r.f1.toNat (rd xs r.f1 + win)
  else (xs.set r.f0.toNat (rd xs r.f0 + 1)).set r.f1.toNat (rd xs r.f1 + 1)
theorem addP_len (win : Int) (xs : List Int) (r : S68) : (addP win xs r).length = xs.length := by
  unfold addP
  split
  · simp
  · split
    · simp
    · simp
theorem addP_upto {win c : Int} (hw : 2 ≤ win ∧ win ≤ 3) {xs : List Int} (h : Upto c xs) {r : S68} (h0 : 0 ≤ r.f0 ∧ r.f0 < (xs.length : Int)) (h1 : 0 ≤ r.f1 ∧ r.f1 < (xs.length : Int)) : Upto (c + 3) (addP win xs r) := by
  have u0 := h r.f0 h0.1 h0.2
  have u1 := h r.f1 h1.1 h1.2
  unfold addP
  split
  · exact h.set (by omega) h0.1 (by omega)
  · split
    · exact h.set (by omega) h1.1 (by omega)
    · exact (h.set (c' := c + 3) (by omega) h0.1 (by omega)).set (by omega) h1.1 (by omega)
theorem lgAdd_eq {a win c : Int} {L : List S68} (hw : 2 ≤ win ∧ win ≤ 3) {xs : List Int} (h : Upto c xs) (hc : c ≤ 1000000) {r : S68} (h0 : 0 ≤ r.f0 ∧ r.f0 < (xs.length : Int)) (h1 : 0 ≤ r.f1 ∧ r.f1 < (xs.length : Int)) (hne : ¬ r.f0 = r.f1)
    (h2 : 0 ≤ r.f2 ∧ r.f2 ≤ 20) (h3 : 0 ≤ r.f3 ∧ r.f3 ≤ 20) : spec_lgAdd.f xs win r.f0 r.f1 (wrap64 (r.f2 - r.f3)) = some (addP win xs r) := by
  have u0 := h r.f0 h0.1 h0.2
  have u1 := h r.f1 h1.1 h1.2
  unfold spec_lgAdd.f addP
  rw [wrap_id (i := r.f2 - r.f3) (by omega) (by omega)]
  by_cases c1 : r.f2 > r.f3
  · rw [if_pos (by omega), if_pos h0.1, if_pos h0.2, if_pos c1, wrap_id (by omega) (by omega)]
  · rw [if_neg (by omega), if_neg c1]
    by_cases c2 : r.f2 < r.f3
    · rw [if_pos (by omega), if_pos h1.1, if_pos h1.2, if_pos c2, wrap_id (by omega) (by omega)]
    · rw [if_neg (by omega), if_pos h0.1, if_pos h0.2, if_neg c2, wrap_id (i := rd xs r.f0 + 1) (by omega) (by omega)]
      simp only [Option.bind_some]
      rw [if_pos h1.1, if_pos h1.2, rd_set_other _ _ _ _ h0.1 h1.1 hne, wrap_id (by omega) (by omega)]
theorem points_eq (a win : Int) (L : List S68) (x y : Int) : impl_League_points.f a win L x y = some (if x > y then (win, 0) else if x < y then (0, win) else (1, 1)) := by
  unfold impl_League_points.f
  by_cases c1 : x > y
  · rw [if_pos c1, if_pos c1]
  · rw [if_neg c1, if_neg c1]
    by_cases c2 : x < y
    · rw [if_pos c2, if_pos c2]
    · rw [if_neg c2, if_neg c2]

def allP (win : Int) : List Int → List S68 → List Int
  | ps, [] => ps
  | ps, r :: rs => allP win (addP win ps r) rs
theorem allP_len (win : Int) : ∀ (rs : List S68) (ps : List Int), (allP win ps rs).length = ps.length
  | [], _ => rfl
  | r :: rs, ps => by
    unfold allP
    rw [allP_len win rs, addP_len]
theorem specPts_l0 (a b : Int) (L : List S68) (g : Good a b L) (suf : List S68) : ∀ (pre : List S68) (ps : List Int), L = pre ++ suf → (ps.length : Int) = a → Upto (3 * pre.length) ps →
    Ev (fun k => spec_lgPoints.l0 k ps L (L.length : Int) (pre.length : Int) a b L) (allP b ps suf) := by
  have hb : L.length ≤ 1048576 := by have := g.hl; omega
  have h56 := g.hl
  induction suf with
  | nil =>
    intro pre ps hL hp hu
    have h1 : L.length = pre.length := by rw [hL]; simp
    refine ev_some fun k => ?_
    simp only [spec_lgPoints.l0]
    rw [if_neg (by omega)]
    rfl
  | cons r suf ih =>
    intro pre ps hL hp hu
    obtain ⟨h1, h2, h3, h4⟩ := at_split hL hb
    obtain ⟨r0, r1, r2, r3, r4⟩ := g.mem (r := r) (by rw [hL]; simp)
    have hlen : ((pre ++ [r]).length : Int) = pre.length + 1 := by simp
    have hadd := lgAdd_eq (a := a) (L := L) g.hb hu (by omega) (r := r) (by omega) (by omega) r2 r3 r4
    have hu' := addP_upto g.hb hu (r := r) (by omega) (by omega)
    refine Ev.step (f := fun k => spec_lgPoints.l0 k (addP b ps r) L (L.length : Int) ((pre ++ [r]).length : Int) a b L) (fun k => ?_) (ih (pre ++ [r]) _ h4 (by rw [addP_len]; exact hp) (hu'.mono (by omega)))
    simp only [spec_lgPoints.l0]
    rw [if_pos (by omega), if_pos (by omega), if_pos (by omega), h2, h3, hadd]
    rfl
theorem implPts_l0 (a b : Int) (L : List S68) (g : Good a b L) (suf : List S68) : ∀ (pre : List S68) (ps : List Int), L = pre ++ suf → (ps.length : Int) = a → Upto (3 * pre.length) ps →
    Ev (fun k => impl_League_allPoints.l0 k ps L (L.length : Int) (pre.length : Int) a b L) (allP b ps suf) := by
  have hb : L.length ≤ 1048576 := by have := g.hl; omega
  have h56 := g.hl
  have hwin := g.hb
  induction suf with
  | nil =>
    intro pre ps hL hp hu
    have h1 : L.length = pre.length := by rw [hL]; simp
    refine ev_some fun k => ?_
    simp only [impl_League_allPoints.l0]
    rw [if_neg (by omega)]
    rfl
  | cons r suf ih =>
    intro pre ps hL hp hu
    obtain ⟨h1, h2, h3, h4⟩ := at_split hL hb
    obtain ⟨r0, r1, r2, r3, r4⟩ := g.mem (r := r) (by rw [hL]; simp)
    have hlen : ((pre ++ [r]).length : Int) = pre.length + 1 := by simp
    have hu' := addP_upto g.hb hu (r := r) (by omega) (by omega)
    have u0 := hu r.f0 r0.1 (by omega)
    have u1 := hu r.f1 r1.1 (by omega)
    refine Ev.step (f := fun k => impl_League_allPoints.l0 k (addP b ps r) L (L.length : Int) ((pre ++ [r]).length : Int) a b L) (fun k => ?_) (ih (pre ++ [r]) _ h4 (by rw [addP_len]; exact hp) (hu'.mono (by omega)))
    simp only [impl_League_allPoints.l0]
    rw [if_pos (by omega), if_pos (by omega), if_pos (by omega), h2, h3, points_eq]
    simp only [Option.bind_some]
    rw [if_pos r0.1, if_pos (by omega), if_pos r1.1, if_pos (by omega), rd_set_other _ _ _ _ r0.1 r1.1 r2]
    congr 1
    unfold addP
    by_cases c1 : r.f2 > r.f3
    · simp only [if_pos c1]
      rw [Int.add_zero, wrap_id (i := rd ps r.f1) (by omega) (by omega), wrap_id (i := rd ps r.f0 + b) (by omega) (by omega)]
      have := set_rd (ps.set r.f0.toNat (rd ps r.f0 + b)) r.f1 r1.1 (by rw [List.length_set]; omega)
      rw [rd_set_other _ _ _ _ r0.1 r1.1 r2] at this
      exact this
    · simp only [if_neg c1]
      by_cases c2 : r.f2 < r.f3
      · simp only [if_pos c2]
        rw [Int.add_zero, wrap_id (i := rd ps r.f0) (by omega) (by omega), wrap_id (i := rd ps r.f1 + b) (by omega) (by omega), set_rd ps r.f0 r0.1 (by omega)]
      · simp only [if_neg c2]
        rw [wrap_id (i := rd ps r.f0 + 1) (by omega) (by omega), wrap_id (i := rd ps r.f1 + 1) (by omega) (by omega)]
def ptsOf (a b : Int) (L : List S68) : List Int := allP b (List.replicate a.toNat 0) L
theorem ptsOf_len (a b : Int) (L : List S68) (ha : 0 ≤ a) : ((ptsOf a b L).length : Int) = a := by
  unfold ptsOf
  rw [allP_len, List.length_replicate]
  omega
theorem specPts_ev (a b : Int) (L : List S68) (g : Good a b L) : Ev (fun k => spec_lgPoints.f k a b L) (ptsOf a b L) := by
  have ha := g.ha
  have := specPts_l0 a b L g L [] (List.replicate a.toNat 0) (by simp) (by rw [List.length_replicate]; omega) (by simpa using Upto.zeros a.toNat)
  refine Ev.congr (fun k => ?_) this
  unfold spec_lgPoints.f
  rw [if_pos (by omega), if_pos (by omega)]
  rfl
theorem implPts_ev (a b : Int) (L : List S68) (g : Good a b L) : Ev (fun k => impl_League_allPoints.f k a b L) (ptsOf a b L) := by
  have ha := g.ha
  have := implPts_l0 a b L g L [] (List.replicate a.toNat 0) (by simp) (by rw [List.length_replicate]; omega) (by simpa using Upto.zeros a.toNat)
  refine Ev.congr (fun k => ?_) this
  unfold impl_League_allPoints.f
  rw [if_pos (by omega), if_pos (by omega)]
  rfl

/-! the games that are left -/
def playedG (L : List S68) (h w : Int) : Bool := (h == w) || L.any fun s => decide (s.f0 = h ∧ s.f1 = w)
def cellG (L : List S68) (h w : Int) : List (List Int) := if playedG L h w = true then [] else [[h, w]]
def lrow (L : List S68) (h : Int) : Nat → Nat → List (List Int)
  | _, 0 => []
  | j, d + 1 => cellG L h (j : Int) ++ lrow L h (j + 1) d
def lall (L : List S68) (T : Nat) : Nat → Nat → List (List Int)
  | _, 0 => []
  | i, d + 1 => lrow L (i : Int) 0 T ++ lall L T (i + 1) d
theorem cellG_len (L : List S68) (h w : Int) : (cellG L h w).length ≤ 1 := by
  unfold cellG
  split <;> simp
theorem lrow_len (L : List S68) (h : Int) : ∀ d j, (lrow L h j d).length ≤ d
  | 0, _ => by simp [lrow]
  | d + 1, j => by
    have h1 := cellG_len L h (j : Int)
    have h2 := lrow_len L h d (j + 1)
    simp only [lrow, List.length_append]
    omega
theorem lall_len (L : List S68) (T : Nat) (hT : T ≤ 8) : ∀ d i, (lall L T i d).length ≤ 8 * d
  | 0, _ => by simp [lall]
  | d + 1, i => by
    have h1 := lrow_len L (i : Int) T 0
    have h2 := lall_len L T hT d (i + 1)
    simp only [lall, List.length_append]
    omega
theorem lrow_two (L : List S68) (h : Int) : ∀ d j, ∀ x ∈ lrow L h j d, x.length ≤ 2
  | 0, _, x, hx => by simp [lrow] at hx
  | d + 1, j, x, hx => by
    simp only [lrow, List.mem_append] at hx
    rcases hx with hx | hx
    · unfold cellG at hx
      split at hx
      · simp at hx
      · rw [List.mem_singleton.1 hx]; simp
    · exact lrow_two L h d (j + 1) x hx
theorem lall_two (L : List S68) (T : Nat) : ∀ d i, ∀ x ∈ lall L T i d, x.length ≤ 2
  | 0, _, x, hx => by simp [lall] at hx
  | d + 1, i, x, hx => by
    simp only [lall, List.mem_append] at hx
    rcases hx with hx | hx
    · exact lrow_two L _ T 0 x hx
    · exact lall_two L T d (i + 1) x hx
theorem specLeft_l2 (a b : Int) (L : List S68) (hb : L.length ≤ 1048576) (x : List (List Int)) (hx : x.length ≤ 1000) (h w : Int) (res : List (List Int))
    (hk : Ev (fun k => spec_lgLeft.l1 k (x ++ cellG L h w) h (wrap64 (w + 1)) a b L) res) (suf : List S68) : ∀ (pre : List S68) (p : Bool), L = pre ++ suf → p = ((h == w) || pre.any fun s => decide (s.f0 = h ∧ s.f1 = w)) →
    Ev (fun k => spec_lgLeft.l2 k x h w p L (L.length : Int) (pre.length : Int) a b L) res := by
  induction suf with
  | nil =>
    intro pre p hL hp
    have h1 : L.length = pre.length := by rw [hL]; simp
    have h2 : L = pre := by rw [hL]; simp
    have hp2 : p = playedG L h w := by rw [hp, h2]; rfl
    unfold cellG at hk
    rw [← hp2] at hk
    cases p
    · simp only [Bool.false_eq_true, if_false] at hk
      refine Ev.step (fun k => ?_) hk
      simp only [spec_lgLeft.l2]
      rw [if_neg (by omega), if_neg (by simp), if_pos (by omega)]
    · simp only [if_true, List.append_nil] at hk
      refine Ev.step (fun k => ?_) hk
      simp only [spec_lgLeft.l2]
      rw [if_neg (by omega)]
      simp
  | cons r suf ih =>
    intro pre p hL hp
    obtain ⟨h1, h2, h3, h4⟩ := at_split hL hb
    have hi := ih (pre ++ [r]) (p || decide (r.f0 = h ∧ r.f1 = w)) h4 (by rw [hp]; simp [Bool.or_assoc])
    refine Ev.step (fun k => ?_) hi
    simp only [spec_lgLeft.l2]
    rw [if_pos (by omega), if_pos (by omega), if_pos (by omega), h2, h3]
    cases p
    · rw [if_neg (by simp)]
      by_cases e0 : r.f0 = h
      · rw [if_pos e0]
        have : (r.f1 == w) = (false || decide (r.f0 = h ∧ r.f1 = w)) := by
          by_cases e1 : r.f1 = w
          · simp [e0, e1]
          · simp [e1]
        rw [this]
      · rw [if_neg e0]
        have : false = (false || decide (r.f0 = h ∧ r.f1 = w)) := by simp [e0]
        rw [← this]
    · rw [if_pos rfl]
      rfl
theorem specLeft_l1 (a b : Int) (L : List S68) (hb : L.length ≤ 1048576) (h : Int) (res : List (List Int)) (d : Nat) : ∀ (j : Nat) (x : List (List Int)), ((j + d : Nat) : Int) = a → j + d ≤ 8 → x.length + d ≤ 1000 →
    Ev (fun k => spec_lgLeft.l0 k (x ++ lrow L h j d) (wrap64 (h + 1)) a b L) res → Ev (fun k => spec_lgLeft.l1 k x h (j : Int) a b L) res := by
  induction d with
  | zero =>
    intro j x hj h8 hx hk
    simp only [lrow, List.append_nil] at hk
    refine Ev.step (fun k => ?_) hk
    simp only [spec_lgLeft.l1]
    rw [if_neg (by omega)]
  | succ d ih =>
    intro j x hj h8 hx hk
    have hc := cellG_len L h (j : Int)
    simp only [lrow, ← List.append_assoc] at hk
    have h1 := ih (j + 1) (x ++ cellG L h (j : Int)) (by omega) (by omega) (by rw [List.length_append]; omega) hk
    have h2 := specLeft_l2 a b L hb x (by omega) h (j : Int) res (by rw [wrap_id (by omega) (by omega)]; exact h1) L [] (h == (j : Int)) rfl (by simp)
    refine Ev.step (fun k => ?_) h2
    simp only [spec_lgLeft.l1]
    rw [if_pos (by omega)]
    rfl
theorem specLeft_l0 (a b : Int) (L : List S68) (hb : L.length ≤ 1048576) (T : Nat) (hT : (T : Int) = a) (h8 : T ≤ 8) (d : Nat) : ∀ (i : Nat) (x : List (List Int)), i + d = T → x.length + 8 * d ≤ 900 →
    Ev (fun k => spec_lgLeft.l0 k x (i : Int) a b L) (x ++ lall L T i d) := by
  induction d with
  | zero =>
    intro i x hi hx
    refine ev_some fun k => ?_
    simp only [spec_lgLeft.l0, lall, List.append_nil]
    rw [if_neg (by omega)]
  | succ d ih =>
    intro i x hi hx
    have hl := lrow_len L (i : Int) T 0
    have h1 := ih (i + 1) (x ++ lrow L (i : Int) 0 T) (by omega) (by rw [List.length_append]; omega)
    have h2 := specLeft_l1 a b L hb (i : Int) _ T 0 x (by omega) (by omega) (by omega) (by rw [wrap_id (by omega) (by omega)]; exact h1)
    rw [List.append_assoc] at h2
    refine Ev.step (fun k => ?_) h2
    simp only [spec_lgLeft.l0]
    rw [if_pos (by omega)]
    rfl
theorem implLeft_l1 (a b : Int) (L : List S68) (h : Int) (res : List (List Int) × Bool) (d : Nat) : ∀ (j : Nat) (x : List (List Int)), ((j + d : Nat) : Int) = a → j + d ≤ 8 → x.length + d ≤ 1000 →
    Ev (fun k => impl_LeftResults.l0 k (x ++ lrow L h j d) a (wrap64 (h + 1)) a b L) res → Ev (fun k => impl_LeftResults.l1 k x h a h a (j : Int) a b L) res := by
  induction d with
  | zero =>
    intro j x hj h8 hx hk
    simp only [lrow, List.append_nil] at hk
    refine Ev.step (fun k => ?_) hk
    simp only [impl_LeftResults.l1]
    rw [if_neg (by omega)]
  | succ d ih =>
    intro j x hj h8 hx hk
    have hc := cellG_len L h (j : Int)
    simp only [lrow, ← List.append_assoc] at hk
    have h1 := ih (j + 1) (x ++ cellG L h (j : Int)) (by omega) (by omega) (by rw [List.length_append]; omega) hk
    have hw : wrap64 ((j : Int) + 1) = ((j + 1 : Nat) : Int) := by rw [wrap_id (by omega) (by omega)]; omega
    refine Ev.step (fun k => ?_) h1
    simp only [impl_LeftResults.l1]
    rw [if_pos (by omega), hw]
    by_cases e : h = (j : Int)
    · rw [if_pos e]
      have : cellG L h (j : Int) = [] := by unfold cellG playedG; rw [if_pos (by simp [e])]
      rw [this, List.append_nil]
    · rw [if_neg e]
      unfold hasGame.f
      rw [Option.bind_some]
      by_cases g : (L.any fun s => decide (s.f0 = h ∧ s.f1 = (j : Int))) = true
      · rw [if_pos g]
        have : cellG L h (j : Int) = [] := by unfold cellG playedG; rw [if_pos (by rw [g, Bool.or_true])]
        rw [this, List.append_nil]
      · rw [if_neg g, if_pos (by omega)]
        have : cellG L h (j : Int) = [[h, (j : Int)]] := by
          unfold cellG playedG
          rw [if_neg]
          rw [Bool.eq_false_iff.2 g, Bool.or_false, beq_iff_eq]
          exact e
        rw [this]
theorem implLeft_l0 (a b : Int) (L : List S68) (T : Nat) (hT : (T : Int) = a) (h8 : T ≤ 8) (d : Nat) : ∀ (i : Nat) (x : List (List Int)), i + d = T → x.length + 8 * d ≤ 900 →
    Ev (fun k => impl_LeftResults.l0 k x a (i : Int) a b L) (x ++ lall L T i d, true) := by
  induction d with
  | zero =>
    intro i x hi hx
    refine ev_some fun k => ?_
    simp only [impl_LeftResults.l0, lall, List.append_nil]
    rw [if_neg (by omega)]
  | succ d ih =>
    intro i x hi hx
    have hl := lrow_len L (i : Int) T 0
    have h1 := ih (i + 1) (x ++ lrow L (i : Int) 0 T) (by omega) (by rw [List.length_append]; omega)
    have h2 := implLeft_l1 a b L (i : Int) _ T 0 x (by omega) (by omega) (by omega) (by rw [wrap_id (by omega) (by omega)]; exact h1)
    rw [List.append_assoc] at h2
    refine Ev.step (fun k => ?_) h2
    simp only [impl_LeftResults.l0]
    rw [if_pos (by omega)]
    rfl


theorem allP_upto {a b : Int} {L : List S68} (g : Good a b L) (rs : List S68) : ∀ (ps : List Int) (c : Int), (∀ r ∈ rs, r ∈ L) → (ps.length : Int) = a → Upto c ps → Upto (c + 3 * rs.length) (allP b ps rs) := by
  induction rs with
  | nil =>
    intro ps c _ _ hu
    simpa [allP] using hu
  | cons r rs ih =>
    intro ps c hm hp hu
    obtain ⟨r0, r1, _⟩ := g.mem (r := r) (hm r (by simp))
    have h1 := addP_upto g.hb hu (r := r) ⟨r0.1, by omega⟩ ⟨r1.1, by omega⟩
    have h2 := ih (addP b ps r) (c + 3) (fun x hx => hm x (by simp [hx])) (by rw [addP_len]; exact hp) h1
    unfold allP
    exact h2.mono (by simp only [List.length_cons]; omega)


/-! by how many ways a team is first -/
def InS (x : Int) : Prop := -9223372036854775808 ≤ x ∧ x < 9223372036854775808
theorem inS_wrap (x : Int) : InS (wrap64 x) := by unfold InS wrap64; omega
def AllS (ps : List Int) : Prop := ∀ i : Int, 0 ≤ i → i < (ps.length : Int) → InS (rd ps i)
theorem wrap_inS {x : Int} (h : InS x) : wrap64 x = x := by unfold InS at h; unfold wrap64; omega
theorem AllS.upd {ps : List Int} (h : AllS ps) (i v : Int) (h0 : 0 ≤ i) (h1 : i < (ps.length : Int)) (hv : InS v) : AllS (upd ps i v) := by
  intro j j0 j1
  rw [upd_length] at j1
  rw [rd_upd ps i v j h0 h1 j0]
  by_cases e : j = i
  · rw [if_pos e]; exact hv
  · rw [if_neg e]; exact h j j0 j1
theorem upd_same {ps : List Int} (h : AllS ps) (i : Int) (h0 : 0 ≤ i) (h1 : i < (ps.length : Int)) : upd ps i (wrap64 (rd ps i + 0)) = ps := by
  rw [Int.add_zero, wrap_inS (h i h0 h1)]
  exact set_rd ps i h0 h1
def RowIn (a : Int) (R : List (List Int)) : Prop := ∀ x ∈ R, ∃ h w, x = [h, w] ∧ (0 ≤ h ∧ h < a) ∧ (0 ≤ w ∧ w < a)
theorem own_eq (ps : List Int) (h : ps.length ≤ 1000) : spec_l1Own.f ps = some ps := by
  unfold spec_l1Own.f
  simp only [Option.bind_some, List.nil_append, List.length_nil, Nat.zero_add]
  rw [if_pos (by omega)]
theorem addC_eq {b : Int} {ps : List Int} (hs : AllS ps) (h w : Int) (h0 : 0 ≤ h ∧ h < (ps.length : Int)) (w0 : 0 ≤ w ∧ w < (ps.length : Int)) :
    spec_lgAddC.f ps b h w (-1) = some (after ps [h, w] 0 b) ∧ spec_lgAddC.f ps b h w 0 = some (after ps [h, w] 1 1) ∧ spec_lgAddC.f ps b h w 1 = some (after ps [h, w] b 0) := by
  have e0 : rd [h, w] 0 = h := rfl
  have e1 : rd [h, w] 1 = w := rfl
  refine ⟨?_, ?_, ?_⟩
  · unfold spec_lgAddC.f after
    rw [e0, e1, if_neg (by omega), if_pos (by omega), if_pos w0.1, if_pos w0.2, upd_same hs h h0.1 h0.2]
    rfl
  · unfold spec_lgAddC.f after
    rw [e0, e1, if_neg (by omega), if_neg (by omega), if_pos h0.1, if_pos h0.2, Option.bind_some, if_pos w0.1, if_pos w0.2]
    rfl
  · unfold spec_lgAddC.f after
    have hs2 := hs.upd h (wrap64 (rd ps h + b)) h0.1 h0.2 (inS_wrap _)
    rw [e0, e1, if_pos (by omega), if_pos h0.1, if_pos h0.2, upd_same hs2 w w0.1 (by rw [upd_length]; exact w0.2)]
    rfl
theorem after_len (ps : List Int) (g : List Int) (x y : Int) : (after ps g x y).length = ps.length := by unfold after; rw [upd_length, upd_length]
theorem after_S {ps : List Int} (hs : AllS ps) (h w x y : Int) (h0 : 0 ≤ h ∧ h < (ps.length : Int)) (w0 : 0 ≤ w ∧ w < (ps.length : Int)) : AllS (after ps [h, w] x y) := by
  have e0 : rd [h, w] 0 = h := rfl
  have e1 : rd [h, w] 1 = w := rfl
  unfold after
  rw [e0, e1]
  exact (hs.upd h _ h0.1 h0.2 (inS_wrap _)).upd w _ w0.1 (by rw [upd_length]; exact w0.2) (inS_wrap _)
theorem mxl_le (xs : List Int) : ∀ m, m ≤ mxl m xs ∧ (∀ x ∈ xs, x ≤ mxl m xs) ∧ (mxl m xs = m ∨ mxl m xs ∈ xs) := by
  induction xs with
  | nil => intro m; exact ⟨Int.le_refl _, fun x hx => by simp at hx, Or.inl rfl⟩
  | cons y ys ih =>
    intro m
    obtain ⟨h1, h2, h3⟩ := ih (mx m y)
    have hm : m ≤ mx m y ∧ y ≤ mx m y ∧ (mx m y = m ∨ mx m y = y) := by unfold mx; split <;> omega
    show m ≤ mxl (mx m y) ys ∧ (∀ x ∈ y :: ys, x ≤ mxl (mx m y) ys) ∧ (mxl (mx m y) ys = m ∨ mxl (mx m y) ys ∈ y :: ys)
    refine ⟨by omega, fun x hx => ?_, ?_⟩
    · rcases List.mem_cons.1 hx with rfl | hx
      · omega
      · exact h2 x hx
    · rcases h3 with h3 | h3
      · rcases hm.2.2 with e | e
        · left; omega
        · right; rw [h3, e]; exact List.mem_cons_self
      · right; exact List.mem_cons_of_mem _ h3
theorem first_base (t : Int) (X : List Int) (t0 : 0 ≤ t) (t1 : t < (X.length : Int)) (hX : X.length ≤ 1000) (d : Nat) : ∀ i : Nat, i + d = X.length →
    Ev (fun k => spec_lgFirsts.l0 k X t X (X.length : Int) (i : Int)) (if (X.drop i).all (fun x => decide (x ≤ rd X t)) = true then 1 else 0) := by
  induction d with
  | zero =>
    intro i hi
    refine ev_some fun k => ?_
    simp only [spec_lgFirsts.l0]
    rw [if_neg (by omega), List.drop_of_length_le (by omega)]
    rfl
  | succ d ih =>
    intro i hi
    have hlt : i < X.length := by omega
    have hr := rd_nat X i hlt
    rw [List.drop_eq_getElem_cons hlt, List.all_cons]
    by_cases c : X[i] > rd X t
    · rw [decide_eq_false (by omega), Bool.false_and]
      refine ev_some fun k => ?_
      simp only [spec_lgFirsts.l0]
      rw [if_pos (by omega), if_pos (by omega), if_pos (by omega), if_pos t0, if_pos t1, hr, if_pos c]
      rfl
    · rw [decide_eq_true (by omega), Bool.true_and]
      refine Ev.step (fun k => ?_) (ih (i + 1) (by omega))
      simp only [spec_lgFirsts.l0]
      rw [if_pos (by omega), if_pos (by omega), if_pos (by omega), if_pos t0, if_pos t1, hr, if_neg c, wrap_id (by omega) (by omega)]
      rfl
theorem base_eq (t : Int) (X : List Int) (t0 : 0 ≤ t) (t1 : t < (X.length : Int)) : (X.all (fun x => decide (x ≤ rd X t)) = true) ↔ mxl (rd X 0) (X.drop 1) = rd X t := by
  have hlt : t.toNat < X.length := by omega
  have ht : rd X t = X[t.toNat] := by have := rd_nat X t.toNat hlt; rwa [Int.toNat_of_nonneg t0] at this
  obtain ⟨x, xs, rfl⟩ : ∃ x xs, X = x :: xs := by
    cases X with
    | nil => simp at hlt
    | cons x xs => exact ⟨x, xs, rfl⟩
  have h0 : rd (x :: xs) 0 = x := rfl
  have hd : (x :: xs).drop 1 = xs := rfl
  rw [h0, hd]
  obtain ⟨h1, h2, h3⟩ := mxl_le xs x
  have hmem : rd (x :: xs) t ∈ x :: xs := by rw [ht]; exact List.getElem_mem hlt
  generalize rd (x :: xs) t = v at hmem ⊢
  have hv : v ≤ mxl x xs := by
    rcases List.mem_cons.1 hmem with rfl | hm
    · exact h1
    · exact h2 v hm
  constructor
  · intro h
    have hall := List.all_eq_true.1 h
    have hm : mxl x xs ∈ x :: xs := by
      rcases h3 with e | e
      · rw [e]; exact List.mem_cons_self
      · exact List.mem_cons_of_mem _ e
    have := of_decide_eq_true (hall _ hm)
    omega
  · intro h
    refine List.all_eq_true.2 fun y hy => decide_eq_true ?_
    rcases List.mem_cons.1 hy with rfl | hy
    · omega
    · have := h2 y hy; omega
theorem firsts_ev (b t : Int) (R : List (List Int)) : ∀ (ps : List Int), RowIn (ps.length : Int) R → AllS ps → ps.length ≤ 1000 → R.length ≤ 1000 → 0 ≤ t → t < (ps.length : Int) →
    Ev (fun k => spec_lgFirsts.f k ps b R t) (cnt b t R ps) := by
  induction R with
  | nil =>
    intro ps _ hs hl _ t0 t1
    have hb := first_base t ps t0 t1 hl ps.length 0 (by omega)
    rw [List.drop_zero] at hb
    refine Ev.step (f := fun k => spec_lgFirsts.l0 k ps t ps (ps.length : Int) 0) (fun k => by simp [spec_lgFirsts.f]) ?_
    have hc : cnt b t [] ps = if ps.all (fun x => decide (x ≤ rd ps t)) = true then 1 else 0 := by
      show (if mxl (rd ps 0) (ps.drop 1) = rd ps t then (1 : Int) else 0) = _
      by_cases c : mxl (rd ps 0) (ps.drop 1) = rd ps t
      · rw [if_pos c, if_pos ((base_eq t ps t0 t1).2 c)]
      · rw [if_neg c, if_neg (fun h => c ((base_eq t ps t0 t1).1 h))]
    rw [hc]
    exact hb
  | cons g gs ih =>
    intro ps hR hs hl hrl t0 t1
    obtain ⟨h, w, rfl, h0, w0⟩ := hR g (by simp)
    obtain ⟨q1, q2, q3⟩ := addC_eq (b := b) hs h w h0 w0
    have hgs : ∀ x y, RowIn ((after ps [h, w] x y).length : Int) gs := fun x y => by rw [after_len]; exact fun z hz => hR z (by simp [hz])
    have hrl' : gs.length ≤ 999 := by simp only [List.length_cons] at hrl; omega
    have rec_ : ∀ x y, Ev (fun k => spec_lgFirsts.f k (after ps [h, w] x y) b gs t) (cnt b t gs (after ps [h, w] x y)) := fun x y =>
      ih (after ps [h, w] x y) (hgs x y) (after_S hs h w x y h0 w0) (by rw [after_len]; exact hl) (by omega) t0 (by rw [after_len]; exact t1)
    have e0 : rd [h, w] 0 = h := rfl
    have e1 : rd [h, w] 1 = w := rfl
    have el : rd_L3 ([h, w] :: gs) 0 = [h, w] := rfl
    have ed : ([h, w] :: gs).drop 1 = gs := rfl
    have hw : cnt b t ([h, w] :: gs) ps = wrap64 (wrap64 (wrap64 (0 + cnt b t gs (after ps [h, w] 0 b)) + cnt b t gs (after ps [h, w] 1 1)) + cnt b t gs (after ps [h, w] b 0)) := by
      show wrap64 (wrap64 (wrap64 (0 + cnt b t gs (after ps [h, w] b 0)) + cnt b t gs (after ps [h, w] 0 b)) + cnt b t gs (after ps [h, w] 1 1)) = _
      generalize cnt b t gs (after ps [h, w] 0 b) = u1
      generalize cnt b t gs (after ps [h, w] 1 1) = u2
      generalize cnt b t gs (after ps [h, w] b 0) = u3
      unfold wrap64
      omega
    have round : ∀ (m acc : Int) (p : List Int) (res : Int), -1 ≤ m → m ≤ 1 → spec_lgAddC.f ps b h w m = some p → Ev (fun k => spec_lgFirsts.f k p b gs t) (cnt b t gs p) →
        Ev (fun k => spec_lgFirsts.l1 k ps b ([h, w] :: gs) t (wrap64 (acc + cnt b t gs p)) (m + 1)) res → Ev (fun k => spec_lgFirsts.l1 k ps b ([h, w] :: gs) t acc m) res := by
      intro m acc p res m0 m1 hp hr hk
      refine Ev.step (f := fun k => (spec_lgFirsts.f k p b gs t).bind fun t134 => spec_lgFirsts.l1 k ps b ([h, w] :: gs) t (wrap64 (acc + t134)) (m + 1)) (fun k => ?_) (Ev.bind hr hk)
      simp only [spec_lgFirsts.l1]
      rw [if_pos m1, own_eq ps hl, Option.bind_some, el, e0, e1, if_pos (by simp only [List.length_cons]; omega), if_pos (by simp), if_pos (by simp), hp, Option.bind_some, if_pos (by simp only [List.length_cons]; omega), ed, wrap_id (i := m + 1) (by omega) (by omega)]
    refine Ev.step (f := fun k => spec_lgFirsts.l1 k ps b ([h, w] :: gs) t 0 (-1)) (fun k => ?_) ?_
    · simp only [spec_lgFirsts.f]
      rw [if_neg (by simp only [List.length_cons]; omega)]
    · rw [hw]
      refine round (-1) 0 _ _ (by omega) (by omega) q1 (rec_ 0 b) ?_
      refine round 0 _ _ _ (by omega) (by omega) q2 (rec_ 1 1) ?_
      refine round 1 _ _ _ (by omega) (by omega) q3 (rec_ b 0) ?_
      refine ev_some fun k => ?_
      simp only [spec_lgFirsts.l1]
      rw [if_neg (by omega)]
theorem lrow_in (L : List S68) (h : Int) (a : Int) (h0 : 0 ≤ h ∧ h < a) : ∀ d j, ((j + d : Nat) : Int) ≤ a → RowIn a (lrow L h j d)
  | 0, _, _, x, hx => by simp [lrow] at hx
  | d + 1, j, hj, x, hx => by
    simp only [lrow, List.mem_append] at hx
    rcases hx with hx | hx
    · unfold cellG at hx
      split at hx
      · simp at hx
      · exact ⟨_, _, List.mem_singleton.1 hx, h0, by omega, by omega⟩
    · exact lrow_in L h a h0 d (j + 1) (by omega) x hx
theorem lall_in (L : List S68) (T : Nat) (a : Int) (ha : (T : Int) ≤ a) : ∀ d i, i + d ≤ T → RowIn a (lall L T i d)
  | 0, _, _, x, hx => by simp [lall] at hx
  | d + 1, i, hi, x, hx => by
    simp only [lall, List.mem_append] at hx
    rcases hx with hx | hx
    · exact lrow_in L _ a (by omega) T 0 (by omega) x hx
    · exact lall_in L T a ha d (i + 1) (by omega) x hx
theorem okCF_of {R : List (List Int)} {ps : List Int} {t : Int} (hR : RowIn (ps.length : Int) R) (hs : AllS ps) (t0 : 0 ≤ t) (t1 : t < (ps.length : Int)) : okCF R ps t = true := by
  unfold okCF
  rw [decide_eq_true t0, decide_eq_true t1, Bool.true_and, Bool.true_and, Bool.and_eq_true]
  refine ⟨List.all_eq_true.2 fun g hg => ?_, List.all_eq_true.2 fun x hx => ?_⟩
  · obtain ⟨h, w, rfl, h0, w0⟩ := hR g hg
    have e0 : rd [h, w] 0 = h := rfl
    have e1 : rd [h, w] 1 = w := rfl
    unfold rowOk
    rw [e0, e1]
    simp [h0.1, h0.2, w0.1, w0.2]
  · obtain ⟨i, hi, rfl⟩ := List.mem_iff_getElem.1 hx
    have := hs (i : Int) (by omega) (by omega)
    rw [rd_nat ps i hi] at this
    unfold InS at this
    simp [this.1, this.2]
theorem left_spec (a b : Int) (L : List S68) (g : Good a b L) : Ev (fun k => spec_lgLeft.f k a b L) (lall L a.toNat 0 a.toNat) := by
  have h56 := g.hl
  have ha := g.ha
  have h0 := specLeft_l0 a b L (by omega) a.toNat (by omega) (by omega) a.toNat 0 [] (by omega) (by simp; omega)
  simpa [spec_lgLeft.f] using h0
theorem left_impl (a b : Int) (L : List S68) (g : Good a b L) (hg : goodB a b L = true) : Ev (fun k => impl_LeftResults.f k a b L) (lall L a.toNat 0 a.toNat, true) := by
  have h56 := g.hl
  have ha := g.ha
  have h0 := implLeft_l0 a b L a.toNat (by omega) (by omega) a.toNat 0 [] (by omega) (by simp; omega)
  unfold impl_LeftResults.f
  refine Ev.bind (isLeague_ev a b _ (by omega)) ?_
  simp only [hg, if_true]
  simpa using h0
theorem open_ev (a b : Int) (L : List S68) (t : Int) (hL : L.length ≤ 1048576) : Ev (fun k => spec_lgOpen.f k a b L t) (teamB a b L t && decide (((lall L a.toNat 0 a.toNat).length : Int) ≤ 7)) := by
  unfold spec_lgOpen.f
  refine Ev.bind (lgTeam_ev a b L t hL) ?_
  cases ht : teamB a b L t
  · simp only [Bool.false_eq_true, if_false, Bool.false_and]
    exact Ev.now _
  · obtain ⟨g, t0, t1⟩ := team_of ht
    simp only [if_true, Bool.true_and]
    exact Ev.bind (left_spec a b L g) (Ev.now _)
theorem firsts_both (a b : Int) (L : List S68) (t : Int) (hL : L.length ≤ 1048576) : ∃ v : Int × Bool, (v.2 = false → v.1 = 0) ∧ (v.2 = (teamB a b L t && decide (((lall L a.toNat 0 a.toNat).length : Int) ≤ 7))) ∧ Ev (fun k => impl_CountFirsts.f k a b L t) v ∧
    (v.2 = true → Ev (fun k => (spec_lgPoints.f k a b L).bind fun t137 => (spec_lgLeft.f k a b L).bind fun t140 => spec_lgFirsts.f k t137 b t140 t) v.1) := by
  unfold impl_CountFirsts.f
  cases ht : teamB a b L t
  · refine ⟨(0, false), fun _ => rfl, rfl, Ev.bind (isTeam_ev a b _ t hL) ?_, fun h => by cases h⟩
    simp only [ht, Bool.false_eq_true, if_false]
    exact Ev.now _
  · obtain ⟨g, t0, t1⟩ := team_of ht
    have hgood : goodB a b L = true := by unfold teamB at ht; simp only [Bool.and_eq_true] at ht; exact ht.1
    have h56 := g.hl
    have ha := g.ha
    have hll := lall_len L a.toNat (by omega) a.toNat 0
    by_cases c : ((lall L a.toNat 0 a.toNat).length : Int) ≤ 7
    · have hpl := ptsOf_len a b L (by omega)
      have hup := allP_upto g L (List.replicate a.toNat 0) 0 (fun r hr => hr) (by rw [List.length_replicate]; omega) (Upto.zeros a.toNat)
      have hs : AllS (ptsOf a b L) := fun i i0 i1 => by
        have := hup i i0 i1
        unfold InS ptsOf
        omega
      have hR : RowIn ((ptsOf a b L).length : Int) (lall L a.toNat 0 a.toNat) := by rw [hpl]; exact lall_in L a.toNat a (by omega) a.toNat 0 (by omega)
      refine ⟨(cnt b t (lall L a.toNat 0 a.toNat) (ptsOf a b L), true), (fun h => by cases h), by rw [decide_eq_true c]; rfl, Ev.bind (isTeam_ev a b _ t hL) ?_, fun _ => ?_⟩
      · simp only [ht, if_true]
        refine Ev.bind (left_impl a b L g hgood) ?_
        simp only [if_neg (show ¬ (((lall L a.toNat 0 a.toNat).length : Int) > 7) by omega)]
        refine Ev.bind (implPts_ev a b _ g) ?_
        simp only [okCF_of hR hs t0 (show t < ((ptsOf a b L).length : Int) by omega), if_true]
        exact Ev.now _
      · refine Ev.bind (specPts_ev a b _ g) ?_
        refine Ev.bind (left_spec a b L g) ?_
        exact firsts_ev b t _ _ hR hs (by omega) (by omega) t0 (by omega)
    · refine ⟨(0, false), fun _ => rfl, by rw [decide_eq_false c]; rfl, Ev.bind (isTeam_ev a b _ t hL) ?_, fun h => by cases h⟩
      simp only [ht, if_true]
      refine Ev.bind (left_impl a b L g hgood) ?_
      simp only [if_pos (show ((lall L a.toNat 0 a.toNat).length : Int) > 7 by omega)]
      exact Ev.now _

end Go.Proofs.Ytmijfimjlenmpaa.Pure
