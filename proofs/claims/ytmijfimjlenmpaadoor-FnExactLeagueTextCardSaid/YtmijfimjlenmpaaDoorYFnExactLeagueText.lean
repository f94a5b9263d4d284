/- What the printed functions of FnExactLeagueText compute answers true, at every argument of its types. No condition beside the types' own bounds. -/
import Derived.Test.YtmijfimjlenmpaaDoorGItoa
import Derived.Test.YtmijfimjlenmpaaDoorQFnExactLeagueTextx
namespace Go.Proofs.YtmijfimjlenmpaaDoor.Pure
open Go.RowKit Go.Proofs.YtmijfimjlenmpaaDoor.QFnExactLeagueText Go.Proofs.YtmijfimjlenmpaaDoorW.PrintWords Go.Proofs.YtmijfimjlenmpaaDoorW.PrintLast Go.Proofs.YtmijfimjlenmpaaDoorW.PrintMore
set_option linter.unusedVariables false
set_option linter.unusedSimpArgs false
set_option linter.unusedSectionVars false

theorem ev_some {α : Type} {g : Nat → Option α} {r : α} (h : ∀ k, g (k + 1) = some r) : Ev g r := Ev.step h (Ev.now r)
theorem ev_const {α : Type} {g : Nat → Option α} {r : α} (h : ∀ k, g k = some r) : Ev g r := ⟨0, fun k _ => h k⟩
theorem wrap_id {i : Int} (h0 : -9223372036854775808 ≤ i) (h1 : i ≤ 9223372036854775807) : wrap64 i = i := by unfold wrap64; omega
theorem l1In_eq (a b c : Int) : spec_l1In.f a b c = some (decide (b ≤ a ∧ a ≤ c)) := by
  unfold spec_l1In.f
  by_cases h : a ≥ b
  · rw [if_pos h]
    have h2 : b ≤ a := h
    simp [h2]
  · rw [if_neg h]
    have h2 : ¬ b ≤ a := h
    simp [h2]
def conv (s : S54) : S45 := ⟨s.f0, s.f1, s.f2, s.f3⟩
theorem rdA (l : List S54) (n : Nat) (h : n < l.length) : rd_T54 l (n : Int) = l[n] := by
  unfold rd_T54
  simp [List.getD_eq_getElem?_getD, List.getElem?_eq_getElem h]
theorem rdB (l : List S45) (n : Nat) (h : n < l.length) : rd_T45 l (n : Int) = l[n] := by
  unfold rd_T45
  simp [List.getD_eq_getElem?_getD, List.getElem?_eq_getElem h]

theorem szLeague_eq (a b : Int) (l : List S54) (hl : l.length ≤ 9223372036854775807) : ∃ t, laws_szLeague.f a b l 1048576 = some t ∧ (t < 0 ∨ l.length ≤ 1048576) := by
  unfold laws_szLeague.f laws_szResultS.f
  by_cases h : wrap64 (1048576 - (l.length : Int)) < 0
  · refine ⟨-1, ?_, Or.inl (by omega)⟩
    rw [if_pos h]
    rfl
  · refine ⟨wrap64 (1048576 - (l.length : Int)), ?_, Or.inr ?_⟩
    · rw [if_neg h]
      simp only [Option.bind_some]
      rw [if_neg h]
    · unfold wrap64 at h
      omega

theorem toResultS_l0 (l : List S54) (hl : l.length ≤ 1048576) (d : Nat) : ∀ (i : Nat) (x : List S45), i + d = l.length → x.length = l.length → (∀ j, j < i → x[j]? = (l.map conv)[j]?) → Ev (fun k => laws_toResultS.l0 k l x (i : Int)) (l.map conv) := by
  induction d with
  | zero =>
    intro i x hi hx hp
    refine ev_some fun k => ?_
    simp only [laws_toResultS.l0]
    rw [if_neg (by omega)]
    congr 1
    apply List.ext_getElem?
    intro j
    by_cases hj : j < i
    · exact hp j hj
    · rw [List.getElem?_eq_none (by omega), List.getElem?_eq_none (by simp; omega)]
  | succ d ih =>
    intro i x hi hx hp
    have hlt : i < l.length := by omega
    refine Ev.step (f := fun k => laws_toResultS.l0 k l (x.set i (conv l[i])) ((i + 1 : Nat) : Int)) (fun k => ?_) (ih (i + 1) (x.set i (conv l[i])) (by omega) (by rw [List.length_set]; exact hx) ?_)
    · simp only [laws_toResultS.l0]
      rw [if_pos (by omega), if_pos (by omega), rdA l i hlt]
      simp only [laws_toResult.f, Option.bind_some]
      rw [if_pos (by omega), wrap_id (by omega) (by omega), Int.toNat_natCast]
      rfl
    · intro j hj
      by_cases e : j = i
      · subst e
        rw [List.getElem?_set_self (by omega)]
        simp [hlt]
      · rw [List.getElem?_set_ne (by omega)]
        exact hp j (by omega)
theorem toResultS_ev (l : List S54) (hl : l.length ≤ 1048576) : Ev (fun k => laws_toResultS.f k l) (l.map conv) := by
  refine Ev.congr (f := fun k => laws_toResultS.l0 k l (List.replicate l.length z45) ((0 : Nat) : Int)) (fun k => ?_) (toResultS_l0 l hl l.length 0 (List.replicate l.length z45) (by omega) List.length_replicate (fun j hj => by omega))
  unfold laws_toResultS.f
  rw [if_pos (by omega), if_pos (by omega)]
  simp
theorem toLeague_ev (a b : Int) (l : List S54) (hl : l.length ≤ 1048576) : Ev (fun k => laws_toLeague.f k a b l) (a, b, l.map conv) := by
  unfold laws_toLeague.f
  exact Ev.bind (f := fun _ t => some (a, b, t)) (toResultS_ev l hl) (Ev.now _)

theorem eqResultS_l0 (L : List S45) (hl : L.length ≤ 1048576) (d : Nat) : ∀ i : Nat, i + d = L.length → Ev (fun k => laws_eqResultS.l0 k L L (i : Int)) true := by
  induction d with
  | zero =>
    intro i hi
    refine ev_some fun k => ?_
    simp only [laws_eqResultS.l0]
    rw [if_neg (by omega)]
  | succ d ih =>
    intro i hi
    refine Ev.step (f := fun k => laws_eqResultS.l0 k L L ((i + 1 : Nat) : Int)) (fun k => ?_) (ih (i + 1) (by omega))
    simp only [laws_eqResultS.l0]
    rw [if_pos (by omega), if_pos (by omega), if_pos (by omega)]
    have e : ∀ a b c d : Int, laws_eqResult.f a b c d a b c d = some true := fun a b c d => by simp [laws_eqResult.f]
    rw [e, wrap_id (by omega) (by omega)]
    rfl
theorem eqResultS_ev (L : List S45) (hl : L.length ≤ 1048576) : Ev (fun k => laws_eqResultS.f k L L) true := by
  refine Ev.congr (f := fun k => laws_eqResultS.l0 k L L ((0 : Nat) : Int)) (fun k => ?_) (eqResultS_l0 L hl L.length 0 (by omega))
  unfold laws_eqResultS.f
  rw [if_pos rfl]
  rfl
theorem eqLeague_ev (a b : Int) (L : List S45) (hl : L.length ≤ 1048576) : Ev (fun k => laws_eqLeague.f k a b L a b L) true := by
  refine Ev.congr (f := fun k => (laws_eqResultS.f k L L).bind fun t => if t = true then some true else some false) (fun k => ?_) (Ev.bind (f := fun _ t => if t = true then some true else some false) (eqResultS_ev L hl) (Ev.now _))
  unfold laws_eqLeague.f
  rw [if_pos rfl, if_pos rfl]

/-! what a good league is -/
def okR (T : Int) (r : S45) : Bool := decide (0 ≤ r.f0 ∧ r.f0 ≤ T - 1) && (decide (0 ≤ r.f1 ∧ r.f1 ≤ T - 1) && (!decide (r.f0 = r.f1) && (decide (0 ≤ r.f2 ∧ r.f2 ≤ 20) && decide (0 ≤ r.f3 ∧ r.f3 ≤ 20))))
def seenB (L : List S45) (i : Nat) (x y : Int) : Bool := (L.take i).any fun s => decide (s.f0 = x ∧ s.f1 = y)
def goodFrom (T : Int) (L : List S45) : Nat → Nat → Bool
  | _, 0 => true
  | i, d + 1 => okR T (L.getD i z45) && (!seenB L i (L.getD i z45).f0 (L.getD i z45).f1 && goodFrom T L (i + 1) d)
def goodB (a b : Int) (L : List S45) : Bool := decide (2 ≤ a ∧ a ≤ 8) && (decide (2 ≤ b ∧ b ≤ 3) && (!decide ((L.length : Int) > 56) && goodFrom a L 0 L.length))

theorem lgResult_eq (T : Int) (hT : 2 ≤ T ∧ T ≤ 8) (r : S45) : spec_lgResult.f T r.f0 r.f1 r.f2 r.f3 = some (okR T r) := by
  unfold spec_lgResult.f okR
  simp only [l1In_eq, wrap_id (i := T - 1) (by omega) (by omega), Option.bind_some]
  by_cases h2 : r.f0 = r.f1
  · cases decide (0 ≤ r.f0 ∧ r.f0 ≤ T - 1) <;> cases decide (0 ≤ r.f1 ∧ r.f1 ≤ T - 1) <;> cases decide (0 ≤ r.f2 ∧ r.f2 ≤ 20) <;> cases decide (0 ≤ r.f3 ∧ r.f3 ≤ 20) <;> simp [h2]
  · cases decide (0 ≤ r.f0 ∧ r.f0 ≤ T - 1) <;> cases decide (0 ≤ r.f1 ∧ r.f1 ≤ T - 1) <;> cases decide (0 ≤ r.f2 ∧ r.f2 ≤ 20) <;> cases decide (0 ≤ r.f3 ∧ r.f3 ≤ 20) <;> simp [h2]

theorem lgGood_l1 (L : List S45) (n a b : Int) (i : Nat) (hi : i < 1048576) (y : List S45) (x0 x1 x2 x3 : Int) (res : Bool) (hy : y.length ≤ 1048576) (hk : Ev (fun k => spec_lgGood.l0 k L n ((i + 1 : Nat) : Int) a b L) res) (d : Nat) :
    ∀ j : Nat, j + d = y.length → Ev (fun k => spec_lgGood.l1 k L n (i : Int) y (y.length : Int) (j : Int) a b L x0 x1 x2 x3) (!(y.drop j).any (fun s => decide (s.f0 = x0 ∧ s.f1 = x1)) && res) := by
  induction d with
  | zero =>
    intro j hj
    rw [List.drop_eq_nil_of_le (by omega)]
    simp only [List.any_nil, Bool.not_false, Bool.true_and]
    refine Ev.step (f := fun k => spec_lgGood.l0 k L n ((i + 1 : Nat) : Int) a b L) (fun k => ?_) hk
    simp only [spec_lgGood.l1]
    rw [if_neg (by omega), wrap_id (by omega) (by omega)]
    rfl
  | succ d ih =>
    intro j hj
    have hlt : j < y.length := by omega
    rw [List.drop_eq_getElem_cons hlt, List.any_cons]
    by_cases e : y[j].f0 = x0 ∧ y[j].f1 = x1
    · simp only [e, and_self, decide_true, Bool.true_or, Bool.not_true, Bool.false_and]
      refine ev_some fun k => ?_
      simp only [spec_lgGood.l1]
      rw [if_pos (by omega), if_pos (by omega), if_pos (by omega), rdB y j hlt, if_pos e.1, if_pos e.2]
    · simp only [e, decide_false, Bool.false_or]
      refine Ev.step (f := fun k => spec_lgGood.l1 k L n (i : Int) y (y.length : Int) ((j + 1 : Nat) : Int) a b L x0 x1 x2 x3) (fun k => ?_) (ih (j + 1) (by omega))
      simp only [spec_lgGood.l1]
      rw [if_pos (by omega), if_pos (by omega), if_pos (by omega), rdB y j hlt, wrap_id (by omega) (by omega)]
      by_cases e0 : y[j].f0 = x0
      · rw [if_pos e0, if_neg (fun e1 => e ⟨e0, e1⟩)]
        rfl
      · rw [if_neg e0]
        rfl

theorem lgGood_l0 (L : List S45) (a b : Int) (ha : 2 ≤ a ∧ a ≤ 8) (hl : L.length ≤ 1048576) (d : Nat) : ∀ i : Nat, i + d = L.length → Ev (fun k => spec_lgGood.l0 k L (L.length : Int) (i : Int) a b L) (goodFrom a L i d) := by
  induction d with
  | zero =>
    intro i hi
    refine ev_some fun k => ?_
    simp only [spec_lgGood.l0]
    rw [if_neg (by omega)]
    rfl
  | succ d ih =>
    intro i hi
    have hlt : i < L.length := by omega
    have eg : L.getD i z45 = L[i] := by simp [List.getD_eq_getElem?_getD, List.getElem?_eq_getElem hlt]
    unfold goodFrom
    rw [eg]
    have hmain : ∀ k, spec_lgGood.l0 (k + 1) L (L.length : Int) (i : Int) a b L = (if okR a L[i] = true then (spec_lgGood.l1 k L (L.length : Int) (i : Int) (L.take i) ((L.take i).length : Int) ((0 : Nat) : Int) a b L L[i].f0 L[i].f1 L[i].f2 L[i].f3) else some false) := by
      intro k
      simp only [spec_lgGood.l0]
      rw [if_pos (by omega), if_pos (by omega), if_pos (by omega), rdB L i hlt, lgResult_eq a ha]
      simp only [Option.bind_some]
      rw [if_pos (show (i : Int) ≤ (L.length : Int) by omega), Int.toNat_natCast]
      rfl
    by_cases hok : okR a L[i] = true
    · rw [hok]
      have hi2 := lgGood_l1 L (L.length : Int) a b i (by omega) (L.take i) L[i].f0 L[i].f1 L[i].f2 L[i].f3 _ (by simp; omega) (ih (i + 1) (by omega)) (L.take i).length 0 (by omega)
      refine Ev.step (fun k => (hmain k).trans (by rw [if_pos hok])) ?_
      simpa [seenB] using hi2
    · rw [Bool.not_eq_true] at hok
      rw [hok]
      refine ev_some fun k => (hmain k).trans (by rw [hok]; rfl)

theorem lgGood_ev (a b : Int) (L : List S45) (hl : L.length ≤ 1048576) : Ev (fun k => spec_lgGood.f k a b L) (goodB a b L) := by
  unfold spec_lgGood.f goodB
  simp only [l1In_eq, Option.bind_some]
  have hj : ∀ x : Bool, 2 ≤ a ∧ a ≤ 8 → Ev (fun k => spec_lgGood.j0 k x a b L) (!x && goodFrom a L 0 L.length) := by
    intro x ha
    cases x
    · exact Ev.step (f := fun k => spec_lgGood.l0 k L (L.length : Int) ((0 : Nat) : Int) a b L) (fun k => by simp only [spec_lgGood.j0]; rw [if_neg (by simp)]; rfl) (by simpa using lgGood_l0 L a b ha hl L.length 0 (by omega))
    · exact ev_some fun k => by simp [spec_lgGood.j0]
  have hf : Ev (fun k => spec_lgGood.j0 k true a b L) false := ev_some fun k => by simp [spec_lgGood.j0]
  by_cases ha : 2 ≤ a ∧ a ≤ 8
  · by_cases hb : 2 ≤ b ∧ b ≤ 3
    · simp only [ha, hb, and_self, decide_true, if_true, Bool.true_and]
      exact hj _ ha
    · simp only [ha, hb, and_self, decide_true, if_true, decide_false, Bool.false_and, Bool.and_false]
      exact hf
  · simp only [ha, decide_false, Bool.false_and]
    exact hf

theorem g_within_eq (a b c : Int) : g_within.f a b c = some (decide (b ≤ a ∧ a ≤ c)) := by
  unfold g_within.f
  by_cases h : b ≤ a
  · rw [if_pos h]
    simp [h]
  · rw [if_neg h]
    simp [h]
theorem seenHas_eq (L : List S45) (i : Nat) (x y : Int) : seenHas.f L (i : Int) x y = some (seenB L i x y) := by
  unfold seenHas.f seenL seenB
  rw [Int.toNat_natCast]
  congr 1
  rw [Bool.eq_iff_iff]
  simp only [decide_eq_true_eq, List.mem_reverse, List.mem_map, List.any_eq_true, Prod.mk.injEq]
theorem isLeague_l0 (L : List S45) (a b : Int) (ha : 2 ≤ a ∧ a ≤ 8) (hl : L.length ≤ 1048576) (d : Nat) : ∀ i : Nat, i + d = L.length → Ev (fun k => impl_IsLeague.l0 k L (L.length : Int) (i : Int) a b L) (goodFrom a L i d) := by
  induction d with
  | zero =>
    intro i hi
    refine ev_some fun k => ?_
    simp only [impl_IsLeague.l0]
    rw [if_neg (by omega)]
    rfl
  | succ d ih =>
    intro i hi
    have hlt : i < L.length := by omega
    have eg : L.getD i z45 = L[i] := by simp [List.getD_eq_getElem?_getD, List.getElem?_eq_getElem hlt]
    unfold goodFrom okR
    rw [eg]
    have hstep : wrap64 ((i : Int) + 1) = ((i + 1 : Nat) : Int) := by rw [wrap_id (by omega) (by omega)]; rfl
    have hmain : ∀ k, impl_IsLeague.l0 (k + 1) L (L.length : Int) (i : Int) a b L = (if ((decide (0 ≤ L[i].f0 ∧ L[i].f0 ≤ a - 1) && (decide (0 ≤ L[i].f1 ∧ L[i].f1 ≤ a - 1) && (!decide (L[i].f0 = L[i].f1) && (decide (0 ≤ L[i].f2 ∧ L[i].f2 ≤ 20) && decide (0 ≤ L[i].f3 ∧ L[i].f3 ≤ 20))))) && !seenB L i L[i].f0 L[i].f1) = true then impl_IsLeague.l0 k L (L.length : Int) ((i + 1 : Nat) : Int) a b L else some false) := by
      intro k
      simp only [impl_IsLeague.l0]
      rw [if_pos (by omega), if_pos (by omega), if_pos (by omega), rdB L i hlt, hstep]
      simp only [g_within_eq, seenHas_eq, wrap_id (i := a - 1) (by omega) (by omega), Option.bind_some]
      by_cases h2 : L[i].f0 = L[i].f1
      · cases decide (0 ≤ L[i].f0 ∧ L[i].f0 ≤ a - 1) <;> cases decide (0 ≤ L[i].f1 ∧ L[i].f1 ≤ a - 1) <;> simp [h2]
      · cases decide (0 ≤ L[i].f0 ∧ L[i].f0 ≤ a - 1) <;> cases decide (0 ≤ L[i].f1 ∧ L[i].f1 ≤ a - 1) <;> cases decide (0 ≤ L[i].f2 ∧ L[i].f2 ≤ 20) <;> cases decide (0 ≤ L[i].f3 ∧ L[i].f3 ≤ 20) <;> cases seenB L i L[i].f0 L[i].f1 <;> simp [h2]
    rw [← Bool.and_assoc]
    revert hmain
    generalize ((decide (0 ≤ L[i].f0 ∧ L[i].f0 ≤ a - 1) && (decide (0 ≤ L[i].f1 ∧ L[i].f1 ≤ a - 1) && (!decide (L[i].f0 = L[i].f1) && (decide (0 ≤ L[i].f2 ∧ L[i].f2 ≤ 20) && decide (0 ≤ L[i].f3 ∧ L[i].f3 ≤ 20))))) && !seenB L i L[i].f0 L[i].f1) = c
    intro hmain
    cases c
    · exact ev_some fun k => by rw [hmain k]; simp
    · exact Ev.step (fun k => (hmain k).trans (by rw [if_pos rfl])) (by simpa using ih (i + 1) (by omega))
theorem isLeague_ev (a b : Int) (L : List S45) (hl : L.length ≤ 1048576) : Ev (fun k => impl_IsLeague.f k a b L) (goodB a b L) := by
  unfold impl_IsLeague.f goodB
  simp only [g_within_eq, Option.bind_some]
  have hj : ∀ x : Bool, 2 ≤ a ∧ a ≤ 8 → Ev (fun k => impl_IsLeague.j0 k x a b L) (!x && goodFrom a L 0 L.length) := by
    intro x ha
    cases x
    · exact Ev.step (f := fun k => impl_IsLeague.l0 k L (L.length : Int) ((0 : Nat) : Int) a b L) (fun k => by simp only [impl_IsLeague.j0]; rw [if_neg (by simp)]; rfl) (by simpa using isLeague_l0 L a b ha hl L.length 0 (by omega))
    · exact ev_some fun k => by simp [impl_IsLeague.j0]
  have hf : Ev (fun k => impl_IsLeague.j0 k true a b L) false := ev_some fun k => by simp [impl_IsLeague.j0]
  by_cases ha : 2 ≤ a ∧ a ≤ 8
  · by_cases hb : 2 ≤ b ∧ b ≤ 3
    · simp only [ha, hb, and_self, decide_true, if_true, Bool.true_and]
      exact hj _ ha
    · simp only [ha, hb, and_self, decide_true, if_true, decide_false, Bool.false_and, Bool.and_false]
      exact hf
  · simp only [ha, decide_false, Bool.false_and]
    exact hf

/-! what is known of a good league -/
theorem okR_of (T : Int) (L : List S45) (d : Nat) : ∀ i : Nat, i + d = L.length → goodFrom T L i d = true → ∀ j, i ≤ j → (h : j < L.length) → okR T L[j] = true := by
  induction d with
  | zero => intro i hi _ j h1 h; omega
  | succ d ih =>
    intro i hi hg j h1 h
    unfold goodFrom at hg
    simp only [Bool.and_eq_true] at hg
    by_cases e : j = i
    · subst e
      have eg : L.getD j z45 = L[j] := by simp [List.getD_eq_getElem?_getD, List.getElem?_eq_getElem h]
      rw [eg] at hg
      exact hg.1
    · exact ih (i + 1) (by omega) hg.2.2 j (by omega) h
structure Good (a b : Int) (L : List S45) : Prop where
  ha : 2 ≤ a ∧ a ≤ 8
  hb : 2 ≤ b ∧ b ≤ 3
  hl : L.length ≤ 56
  hr : ∀ j, (h : j < L.length) → (0 ≤ L[j].f0 ∧ L[j].f0 ≤ a - 1) ∧ (0 ≤ L[j].f1 ∧ L[j].f1 ≤ a - 1) ∧ ¬ L[j].f0 = L[j].f1 ∧ (0 ≤ L[j].f2 ∧ L[j].f2 ≤ 20) ∧ (0 ≤ L[j].f3 ∧ L[j].f3 ≤ 20)
theorem good_of {a b : Int} {L : List S45} (h : goodB a b L = true) : Good a b L := by
  unfold goodB at h
  simp only [Bool.and_eq_true, decide_eq_true_eq, Bool.not_eq_true', decide_eq_false_iff_not] at h
  obtain ⟨h1, h2, h3, h4⟩ := h
  refine ⟨h1, h2, by omega, fun j hj => ?_⟩
  have := okR_of a L L.length 0 (by omega) h4 j (by omega) hj
  unfold okR at this
  simpa only [Bool.and_eq_true, decide_eq_true_eq, Bool.not_eq_true', decide_eq_false_iff_not] using this


/-- A number below a hundred in decimal: the reference's own way and the library's. -/
theorem num_all : ∀ n : Nat, n < 100 → spec_l1Num.f 3 (n : Int) = some ⟨(Lib.decDigits n).toArray⟩ := by decide +kernel
theorem num_ev (z : Int) (h0 : 0 ≤ z) (h1 : z < 100) : Ev (fun k => spec_l1Num.f k z) ⟨(Lib.decDigits z.toNat).toArray⟩ := by
  have e : ((z.toNat : Nat) : Int) = z := Int.toNat_of_nonneg h0
  have := num_all z.toNat (by omega)
  rw [e] at this
  exact Ev.of (fun k => spec_l1Num.mono z k) this
theorem num_size (n : Nat) (h : n < 100) : (⟨(Lib.decDigits n).toArray⟩ : ByteArray).size ≤ 2 := by
  revert n
  decide +kernel
theorem itoa_eq (z : Int) (h0 : 0 ≤ z) (h1 : z < 100) : strconv_Itoa.f z = some ⟨(Lib.decDigits z.toNat).toArray⟩ := by
  unfold strconv_Itoa.f
  rw [if_pos ⟨h0, h1⟩]

/-! a league's text -/
def kNum (z : Int) : ByteArray := ⟨(Lib.decDigits z.toNat).toArray⟩
theorem kNum_ev (z : Int) (h0 : 0 ≤ z) (h1 : z < 100) : Ev (fun k => spec_l1Num.f k z) (kNum z) := num_ev z h0 h1
theorem kItoa (z : Int) (h0 : 0 ≤ z) (h1 : z < 100) : strconv_Itoa.f z = some (kNum z) := itoa_eq z h0 h1
theorem kNum_size (z : Int) (h0 : 0 ≤ z) (h1 : z < 100) : (kNum z).size ≤ 2 := num_size z.toNat (by omega)
theorem bsize (a b : ByteArray) : (a ++ b).size = a.size + b.size := by simp
theorem csize (x : UInt8) : (⟨#[x]⟩ : ByteArray).size = 1 := rfl
theorem bassoc (a b c : ByteArray) : (a ++ b) ++ c = a ++ (b ++ c) := by apply ByteArray.ext; simp
theorem bnil (a : ByteArray) : a ++ (⟨#[]⟩ : ByteArray) = a := by apply ByteArray.ext; simp
def wT (r : S45) : ByteArray := (((((kNum r.f0 ++ (⟨#[45]⟩ : ByteArray)) ++ kNum r.f1) ++ (⟨#[61]⟩ : ByteArray)) ++ kNum r.f2) ++ (⟨#[58]⟩ : ByteArray)) ++ kNum r.f3
def hT (a b : Int) : ByteArray := ((kNum a ++ (⟨#[119]⟩ : ByteArray)) ++ kNum b) ++ (⟨#[124]⟩ : ByteArray)
def lT (L : List S45) : ByteArray := ⟨(Lib.join (L.map fun r => (wT r).data.toList) [44]).toArray⟩
theorem kJoin_snoc (y : List UInt8) (s : List UInt8) (xs : List (List UInt8)) (h : xs ≠ []) : Lib.join (xs ++ [y]) s = Lib.join xs s ++ s ++ y := by
  cases xs with
  | nil => exact absurd rfl h
  | cons x xs =>
    rw [List.cons_append, Lib.join_cons, Lib.join_cons]
    simp [Lib.joinTail]
theorem lT_snoc (L : List S45) (r : S45) (h : L ≠ []) : lT (L ++ [r]) = (lT L ++ (⟨#[44]⟩ : ByteArray)) ++ wT r := by
  unfold lT
  rw [List.map_append, List.map_singleton, kJoin_snoc _ _ _ (by simpa using h)]
  apply ByteArray.ext
  simp
theorem lT_one (r : S45) : lT [r] = wT r := by
  unfold lT
  rw [List.map_singleton, Lib.join_one]
theorem lT_nil : lT [] = ⟨#[]⟩ := by
  unfold lT
  rw [List.map_nil, Lib.join_nil]
theorem take_snoc (l : List S45) (i : Nat) (h : i < l.length) : l.take i ++ [l[i]] = l.take (i + 1) := by
  rw [List.take_add_one, List.getElem?_eq_getElem h]
  rfl
theorem take_ne (l : List S45) (i : Nat) (h : i < l.length) (h0 : i ≠ 0) : l.take i ≠ [] := by
  intro e
  have := congrArg List.length e
  rw [List.length_take, List.length_nil] at this
  omega
def Small (r : S45) : Prop := (0 ≤ r.f0 ∧ r.f0 < 100) ∧ (0 ≤ r.f1 ∧ r.f1 < 100) ∧ (0 ≤ r.f2 ∧ r.f2 < 100) ∧ (0 ≤ r.f3 ∧ r.f3 < 100)
theorem wT_size (r : S45) (h : Small r) : (wT r).size ≤ 11 := by
  obtain ⟨h0, h1, h2, h3⟩ := h
  have := kNum_size r.f0 h0.1 h0.2
  have := kNum_size r.f1 h1.1 h1.2
  have := kNum_size r.f2 h2.1 h2.2
  have := kNum_size r.f3 h3.1 h3.2
  unfold wT
  simp only [bsize, csize]
  omega
theorem lT_size (L : List S45) (hs : ∀ j, (h : j < L.length) → Small L[j]) : ∀ i, i ≤ L.length → (lT (L.take i)).size ≤ 12 * i := by
  intro i
  induction i with
  | zero => intro _; rw [List.take_zero, lT_nil]; exact Nat.zero_le _
  | succ i ih =>
    intro hi
    have hlt : i < L.length := by omega
    have hw := wT_size L[i] (hs i hlt)
    rw [← take_snoc L i hlt]
    by_cases h0 : i = 0
    · subst h0
      rw [List.take_zero, List.nil_append, lT_one]
      omega
    · rw [lT_snoc _ _ (take_ne L i hlt h0)]
      have := ih (by omega)
      simp only [bsize, csize]
      omega
theorem lgText_j1 (x : ByteArray) (hx : x.size ≤ 100000) (L : List S45) (n i : Int) (r : S45) (h : Small r) (res : ByteArray)
    (hk : Ev (fun k => spec_lgText.l0 k (x ++ wT r) L n (wrap64 (i + 1))) res) : Ev (fun k => spec_lgText.j1 k x L n i r.f0 r.f1 r.f2 r.f3) res := by
  have hw := wT_size r h
  obtain ⟨h0, h1, h2, h3⟩ := h
  have s0 := kNum_size r.f0 h0.1 h0.2
  have s1 := kNum_size r.f1 h1.1 h1.2
  have s2 := kNum_size r.f2 h2.1 h2.2
  have s3 := kNum_size r.f3 h3.1 h3.2
  have c0 : (kNum r.f0).size + 1 ≤ 9223372036854775807 := by omega
  have c1 : (kNum r.f0 ++ (⟨#[45]⟩ : ByteArray)).size + (kNum r.f1).size ≤ 9223372036854775807 := by simp only [bsize, csize]; omega
  have c2 : ((kNum r.f0 ++ (⟨#[45]⟩ : ByteArray)) ++ kNum r.f1).size + 1 ≤ 9223372036854775807 := by simp only [bsize, csize]; omega
  have c3 : (((kNum r.f0 ++ (⟨#[45]⟩ : ByteArray)) ++ kNum r.f1) ++ (⟨#[61]⟩ : ByteArray)).size + (kNum r.f2).size ≤ 9223372036854775807 := by simp only [bsize, csize]; omega
  have c4 : ((((kNum r.f0 ++ (⟨#[45]⟩ : ByteArray)) ++ kNum r.f1) ++ (⟨#[61]⟩ : ByteArray)) ++ kNum r.f2).size + 1 ≤ 9223372036854775807 := by simp only [bsize, csize]; omega
  have c5 : (((((kNum r.f0 ++ (⟨#[45]⟩ : ByteArray)) ++ kNum r.f1) ++ (⟨#[61]⟩ : ByteArray)) ++ kNum r.f2) ++ (⟨#[58]⟩ : ByteArray)).size + (kNum r.f3).size ≤ 9223372036854775807 := by simp only [bsize, csize]; omega
  have c6 : x.size + ((((((kNum r.f0 ++ (⟨#[45]⟩ : ByteArray)) ++ kNum r.f1) ++ (⟨#[61]⟩ : ByteArray)) ++ kNum r.f2) ++ (⟨#[58]⟩ : ByteArray)) ++ kNum r.f3).size ≤ 9223372036854775807 := by simp only [bsize, csize]; omega
  refine Ev.step (f := fun k => (spec_l1Num.f k r.f0).bind fun t132 => (if t132.size + 1 ≤ 9223372036854775807 then ((spec_l1Num.f k r.f1).bind fun t133 => (if (t132 ++ (⟨#[45]⟩ : ByteArray)).size + t133.size ≤ 9223372036854775807 then (if ((t132 ++ (⟨#[45]⟩ : ByteArray)) ++ t133).size + 1 ≤ 9223372036854775807 then ((spec_l1Num.f k r.f2).bind fun t134 => (if (((t132 ++ (⟨#[45]⟩ : ByteArray)) ++ t133) ++ (⟨#[61]⟩ : ByteArray)).size + t134.size ≤ 9223372036854775807 then (if ((((t132 ++ (⟨#[45]⟩ : ByteArray)) ++ t133) ++ (⟨#[61]⟩ : ByteArray)) ++ t134).size + 1 ≤ 9223372036854775807 then ((spec_l1Num.f k r.f3).bind fun t135 => (if (((((t132 ++ (⟨#[45]⟩ : ByteArray)) ++ t133) ++ (⟨#[61]⟩ : ByteArray)) ++ t134) ++ (⟨#[58]⟩ : ByteArray)).size + t135.size ≤ 9223372036854775807 then (if x.size + ((((((t132 ++ (⟨#[45]⟩ : ByteArray)) ++ t133) ++ (⟨#[61]⟩ : ByteArray)) ++ t134) ++ (⟨#[58]⟩ : ByteArray)) ++ t135).size ≤ 9223372036854775807 then (spec_lgText.l0 k (x ++ ((((((t132 ++ (⟨#[45]⟩ : ByteArray)) ++ t133) ++ (⟨#[61]⟩ : ByteArray)) ++ t134) ++ (⟨#[58]⟩ : ByteArray)) ++ t135)) L n (wrap64 (i + 1))) else (none)) else (none))) else (none)) else (none))) else (none)) else (none))) else (none))) (fun k => by simp only [spec_lgText.j1]) ?_
  refine Ev.bind (kNum_ev _ h0.1 h0.2) ?_
  simp only [if_pos c0]
  refine Ev.bind (kNum_ev _ h1.1 h1.2) ?_
  simp only [if_pos c1, if_pos c2]
  refine Ev.bind (kNum_ev _ h2.1 h2.2) ?_
  simp only [if_pos c3, if_pos c4]
  refine Ev.bind (kNum_ev _ h3.1 h3.2) ?_
  simp only [if_pos c5, if_pos c6]
  exact hk
theorem lgText_l0 (L : List S45) (hl : L.length ≤ 56) (hs : ∀ j, (h : j < L.length) → Small L[j]) (H : ByteArray) (hH : H.size ≤ 100) (d : Nat) : ∀ i : Nat, i + d = L.length →
    Ev (fun k => spec_lgText.l0 k (H ++ lT (L.take i)) L (L.length : Int) (i : Int)) (H ++ lT L) := by
  induction d with
  | zero =>
    intro i hi
    refine ev_some fun k => ?_
    simp only [spec_lgText.l0]
    rw [if_neg (by omega), List.take_of_length_le (by omega)]
  | succ d ih =>
    intro i hi
    have hlt : i < L.length := by omega
    have hz := lT_size L hs i (by omega)
    have hwi : wrap64 ((i : Int) + 1) = ((i + 1 : Nat) : Int) := by rw [wrap_id (by omega) (by omega)]; omega
    have hi2 := ih (i + 1) (by omega)
    by_cases h0 : i = 0
    · subst h0
      have e0 : H ++ lT (L.take 0) = H := by rw [List.take_zero, lT_nil, bnil]
      have e1 : H ++ lT (L.take (0 + 1)) = H ++ wT L[0] := by rw [← take_snoc L 0 hlt, List.take_zero, List.nil_append, lT_one]
      rw [e1] at hi2
      rw [e0]
      refine Ev.step (f := fun k => spec_lgText.j1 k H L (L.length : Int) ((0 : Nat) : Int) L[0].f0 L[0].f1 L[0].f2 L[0].f3) (fun k => ?_) (lgText_j1 H (by omega) L _ _ L[0] (hs 0 hlt) _ (by rw [hwi]; exact hi2))
      simp only [spec_lgText.l0]
      rw [if_pos (by omega), if_pos (by omega), if_pos (by omega), if_neg (by omega), rdB L 0 hlt]
    · have e1 : H ++ lT (L.take (i + 1)) = ((H ++ lT (L.take i)) ++ (⟨#[44]⟩ : ByteArray)) ++ wT L[i] := by
        rw [← take_snoc L i hlt, lT_snoc _ _ (take_ne L i hlt h0)]
        simp only [bassoc]
      rw [e1] at hi2
      have hzz : (H ++ lT (L.take i)).size + 1 ≤ 9223372036854775807 := by simp only [bsize]; omega
      refine Ev.step (f := fun k => spec_lgText.j1 k ((H ++ lT (L.take i)) ++ (⟨#[44]⟩ : ByteArray)) L (L.length : Int) (i : Int) L[i].f0 L[i].f1 L[i].f2 L[i].f3) (fun k => ?_) (lgText_j1 _ (by simp only [bsize, csize]; omega) L _ _ L[i] (hs i hlt) _ (by rw [hwi]; exact hi2))
      simp only [spec_lgText.l0]
      rw [if_pos (by omega), if_pos (by omega), if_pos (by omega), if_pos (by omega), if_pos hzz, rdB L i hlt]
theorem hT_size (a b : Int) (ha : 0 ≤ a ∧ a < 100) (hb : 0 ≤ b ∧ b < 100) : (hT a b).size ≤ 6 := by
  have := kNum_size a ha.1 ha.2
  have := kNum_size b hb.1 hb.2
  unfold hT
  simp only [bsize, csize]
  omega
theorem lgText_ev (a b : Int) (ha : 0 ≤ a ∧ a < 100) (hb : 0 ≤ b ∧ b < 100) (L : List S45) (hl : L.length ≤ 56) (hs : ∀ j, (h : j < L.length) → Small L[j]) : Ev (fun k => spec_lgText.f k a b L) (hT a b ++ lT L) := by
  have s0 := kNum_size a ha.1 ha.2
  have s1 := kNum_size b hb.1 hb.2
  have c0 : (kNum a).size + 1 ≤ 9223372036854775807 := by omega
  have c1 : (kNum a ++ (⟨#[119]⟩ : ByteArray)).size + (kNum b).size ≤ 9223372036854775807 := by simp only [bsize, csize]; omega
  have c2 : ((kNum a ++ (⟨#[119]⟩ : ByteArray)) ++ kNum b).size + 1 ≤ 9223372036854775807 := by simp only [bsize, csize]; omega
  have hH := hT_size a b ha hb
  have h0 := lgText_l0 L hl hs (hT a b) (by omega) L.length 0 (by omega)
  rw [List.take_zero, lT_nil, bnil] at h0
  unfold spec_lgText.f
  refine Ev.bind (kNum_ev _ ha.1 ha.2) ?_
  simp only [if_pos c0]
  refine Ev.bind (kNum_ev _ hb.1 hb.2) ?_
  simp only [if_pos c1, if_pos c2]
  exact h0
theorem implText_l0 (a b : Int) (ha : 0 ≤ a ∧ a < 100) (hb : 0 ≤ b ∧ b < 100) (L : List S45) (hl : L.length ≤ 56) (hs : ∀ j, (h : j < L.length) → Small L[j]) (d : Nat) : ∀ i : Nat, i + d = L.length →
    Ev (fun k => impl_LeagueText.l0 k ((L.take i).map wT) L (L.length : Int) (i : Int) a b L) (hT a b ++ lT L, true) := by
  induction d with
  | zero =>
    intro i hi
    have s0 := kNum_size a ha.1 ha.2
    have s1 := kNum_size b hb.1 hb.2
    have hH := hT_size a b ha hb
    have hz := lT_size L hs L.length (by omega)
    rw [List.take_of_length_le (by omega)] at hz
    have c0 : (kNum a).size + 1 ≤ 9223372036854775807 := by omega
    have c1 : (kNum a ++ (⟨#[119]⟩ : ByteArray)).size + (kNum b).size ≤ 9223372036854775807 := by simp only [bsize, csize]; omega
    have c2 : ((kNum a ++ (⟨#[119]⟩ : ByteArray)) ++ kNum b).size + 1 ≤ 9223372036854775807 := by simp only [bsize, csize]; omega
    have c3 : (((kNum a ++ (⟨#[119]⟩ : ByteArray)) ++ kNum b) ++ (⟨#[124]⟩ : ByteArray)).size + (lT L).size ≤ 9223372036854775807 := by simp only [bsize, csize]; omega
    have em : (L.map wT).map (·.data.toList) = L.map fun r => (wT r).data.toList := by simp [List.map_map, Function.comp_def]
    have es : (Lib.join (L.map fun r => (wT r).data.toList) [44]).length = (lT L).size := by simp [lT, ByteArray.size]
    have hj : strings_Join.f (L.map wT) (⟨#[44]⟩ : ByteArray) = some (lT L) := by
      unfold strings_Join.f
      rw [em, if_pos ⟨by simp; omega, by simpa [es] using (by omega : (lT L).size ≤ 140737488355328)⟩]
      rfl
    refine ev_some fun k => ?_
    simp only [impl_LeagueText.l0]
    rw [if_neg (by omega), List.take_of_length_le (by omega), kItoa a ha.1 ha.2, kItoa b hb.1 hb.2, hj]
    simp only [Option.bind_some, if_pos c0, if_pos c1, if_pos c2, if_pos c3]
    rfl
  | succ d ih =>
    intro i hi
    have hlt : i < L.length := by omega
    have hwi : wrap64 ((i : Int) + 1) = ((i + 1 : Nat) : Int) := by rw [wrap_id (by omega) (by omega)]; omega
    have hw := wT_size L[i] (hs i hlt)
    obtain ⟨h0, h1, h2, h3⟩ := hs i hlt
    have s0 := kNum_size L[i].f0 h0.1 h0.2
    have s1 := kNum_size L[i].f1 h1.1 h1.2
    have s2 := kNum_size L[i].f2 h2.1 h2.2
    have s3 := kNum_size L[i].f3 h3.1 h3.2
    have c0 : (kNum L[i].f0).size + 1 ≤ 9223372036854775807 := by omega
    have c1 : (kNum L[i].f0 ++ (⟨#[45]⟩ : ByteArray)).size + (kNum L[i].f1).size ≤ 9223372036854775807 := by simp only [bsize, csize]; omega
    have c2 : ((kNum L[i].f0 ++ (⟨#[45]⟩ : ByteArray)) ++ kNum L[i].f1).size + 1 ≤ 9223372036854775807 := by simp only [bsize, csize]; omega
    have c3 : (((kNum L[i].f0 ++ (⟨#[45]⟩ : ByteArray)) ++ kNum L[i].f1) ++ (⟨#[61]⟩ : ByteArray)).size + (kNum L[i].f2).size ≤ 9223372036854775807 := by simp only [bsize, csize]; omega
    have c4 : ((((kNum L[i].f0 ++ (⟨#[45]⟩ : ByteArray)) ++ kNum L[i].f1) ++ (⟨#[61]⟩ : ByteArray)) ++ kNum L[i].f2).size + 1 ≤ 9223372036854775807 := by simp only [bsize, csize]; omega
    have c5 : (((((kNum L[i].f0 ++ (⟨#[45]⟩ : ByteArray)) ++ kNum L[i].f1) ++ (⟨#[61]⟩ : ByteArray)) ++ kNum L[i].f2) ++ (⟨#[58]⟩ : ByteArray)).size + (kNum L[i].f3).size ≤ 9223372036854775807 := by simp only [bsize, csize]; omega
    have c6 : ((L.take i).map wT).length < 8796093022208 := by rw [List.length_map, List.length_take]; omega
    refine Ev.step (fun k => ?_) (ih (i + 1) (by omega))
    simp only [impl_LeagueText.l0]
    rw [if_pos (by omega), if_pos (by omega), if_pos (by omega), rdB L i hlt, kItoa _ h0.1 h0.2, kItoa _ h1.1 h1.2, kItoa _ h2.1 h2.2, kItoa _ h3.1 h3.2, hwi]
    simp only [Option.bind_some, if_pos c0, if_pos c1, if_pos c2, if_pos c3, if_pos c4, if_pos c5, if_pos c6]
    rw [← take_snoc L i hlt, List.map_append, List.map_singleton]
    rfl

theorem FnExactLeagueText : ∀ (a0_0 : Int) (a0_1 : Int) (l0_2 : List S54), (Lit.int .i64 a0_0).wf = true → (Lit.int .i64 a0_1).wf = true → l0_2.length ≤ 9223372036854775807 → ∃ k, laws_FnExactLeagueText.f k a0_0 a0_1 l0_2 = some true := by
  intro a b l _ _ hl
  refine Ev.rounds ?_
  obtain ⟨z, hz, hc⟩ := szLeague_eq a b l hl
  unfold laws_FnExactLeagueText.f
  simp only [hz, Option.bind_some]
  by_cases h : z < 0
  · simp only [h, if_true]
    exact Ev.now _
  · simp only [h, if_false]
    have hl2 : l.length ≤ 1048576 := by omega
    have hL : (l.map conv).length ≤ 1048576 := by simpa using hl2
    have both : ∃ v : ByteArray × Bool, Ev (fun k => spec_LeagueText.f k a b (l.map conv)) v ∧ Ev (fun k => impl_LeagueText.f k a b (l.map conv)) v := by
      unfold spec_LeagueText.f impl_LeagueText.f
      cases ht : goodB a b (l.map conv)
      · refine ⟨(⟨#[]⟩, false), Ev.bind (lgGood_ev a b _ hL) ?_, Ev.bind (isLeague_ev a b _ hL) ?_⟩
        · simp only [ht, Bool.false_eq_true, if_false]
          exact Ev.now _
        · simp only [ht, Bool.false_eq_true, if_false]
          exact Ev.now _
      · have g := good_of ht
        have ha := g.ha
        have hb := g.hb
        have hs : ∀ j, (h : j < (l.map conv).length) → Small (l.map conv)[j] := by
          intro j hj
          have := g.hr j hj
          exact ⟨⟨by omega, by omega⟩, ⟨by omega, by omega⟩, ⟨by omega, by omega⟩, ⟨by omega, by omega⟩⟩
        refine ⟨(hT a b ++ lT (l.map conv), true), Ev.bind (lgGood_ev a b _ hL) ?_, Ev.bind (isLeague_ev a b _ hL) ?_⟩
        · simp only [ht, if_true]
          exact Ev.bind (f := fun _ t => some (t, true)) (lgText_ev a b ⟨by omega, by omega⟩ ⟨by omega, by omega⟩ _ g.hl hs) (Ev.now _)
        · simp only [ht, if_true]
          have := implText_l0 a b ⟨by omega, by omega⟩ ⟨by omega, by omega⟩ _ g.hl hs (l.map conv).length 0 (by omega)
          simpa using this
    obtain ⟨v, hs, hi⟩ := both
    refine Ev.bind (toLeague_ev a b l hl2) ?_
    refine Ev.bind hs ?_
    refine Ev.bind (toLeague_ev a b l hl2) ?_
    refine Ev.bind hi ?_
    simp only [bne_self_eq_false, if_true]
    refine Ev.step (f := fun k => (laws_toLeague.f k a b l).bind fun p => (laws_eqLeague.f k a b (l.map conv) p.1 p.2.1 p.2.2).bind fun t => if t = true then some true else some false) (fun k => by simp [laws_FnExactLeagueText.j0]) ?_
    refine Ev.bind (toLeague_ev a b l hl2) ?_
    refine Ev.bind (eqLeague_ev a b _ hL) ?_
    exact Ev.now _

end Go.Proofs.YtmijfimjlenmpaaDoor.Pure
