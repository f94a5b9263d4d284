/- The pure part of LeagueTable and RankOfTeam: numbers and lists alone. -/
import Derived.Test.YtmijfimjlenmpaaQTMx1
import Derived.Test.YtmijfimjlenmpaaQTMx2
import Derived.Test.YtmijfimjlenmpaaQTMx3
import Derived.Test.YtmijfimjlenmpaaQTMx4
import Derived.Test.YtmijfimjlenmpaaQTMx5
import Derived.Test.YtmijfimjlenmpaaGLT
import Derived.Test.YtmijfimjlenmpaaQFnExactLeagueTablex1
import Derived.Test.YtmijfimjlenmpaaQFnExactLeagueTablex2
import Derived.Sort.LotA
namespace Go.Proofs.Ytmijfimjlenmpaa.Pure
open Go.RowKit Go.Proofs.Ytmijfimjlenmpaa.QFnExactMostPoints Go.Proofs.YtmijfimjlenmpaaW.PrintWords Go.Proofs.YtmijfimjlenmpaaW.PrintLast Go.Proofs.YtmijfimjlenmpaaW.PrintMore
set_option linter.unusedVariables false
set_option linter.unusedSimpArgs false
set_option linter.unusedSectionVars false

theorem ev_some {α : Type} {g : Nat → Option α} {r : α} (h : ∀ k, g (k + 1) = some r) : Ev g r := Ev.step h (Ev.now r)
theorem ev_const {α : Type} {g : Nat → Option α} {r : α} (h : ∀ k, g k = some r) : Ev g r := ⟨0, fun k _ => h k⟩
theorem wrap_id {i : Int} (h0 : -9223372036854775808 ≤ i) (h1 : i ≤ 9223372036854775807) : wrap64 i = i := by unfold wrap64; omega
theorem l1In_eq (a b c : Int) : spec_l1In.f a b c = some (decide (b ≤ a ∧ a ≤ c)) := by
  unfold spec_l1In.f
  by_cases h : a ≥ b
  · rw [if_pos h]
    have h2 : b ≤ a := h
    simp [h2]
  · rw [if_neg h]
    have h2 : ¬ b ≤ a := h
    simp [h2]
def conv (s : S71) : S68 := ⟨s.f0, s.f1, s.f2, s.f3⟩
theorem rdA (l : List S71) (n : Nat) (h : n < l.length) : rd_T71 l (n : Int) = l[n] := by
  unfold rd_T71
  simp [List.getD_eq_getElem?_getD, List.getElem?_eq_getElem h]
theorem rdB (l : List S68) (n : Nat) (h : n < l.length) : rd_T68 l (n : Int) = l[n] := by
  unfold rd_T68
  simp [List.getD_eq_getElem?_getD, List.getElem?_eq_getElem h]

theorem szLeague_eq (a b : Int) (l : List S71) (hl : l.length ≤ 9223372036854775807) : ∃ t, laws_szLeague.f a b l 1048576 = some t ∧ (t < 0 ∨ l.length ≤ 1048576) := by
  unfold laws_szLeague.f laws_szResultS.f
  by_cases h : wrap64 (1048576 - (l.length : Int)) < 0
  · refine ⟨-1, ?_, Or.inl (by omega)⟩
    rw [if_pos h]
    rfl
  · refine ⟨wrap64 (1048576 - (l.length : Int)), ?_, Or.inr ?_⟩
    · rw [if_neg h]
      simp only [Option.bind_some]
      rw [if_neg h]
    · unfold wrap64 at h
      omega

theorem toResultS_l0 (l : List S71) (hl : l.length ≤ 1048576) (d : Nat) : ∀ (i : Nat) (x : List S68), i + d = l.length → x.length = l.length → (∀ j, j < i → x[j]? = (l.map conv)[j]?) → Ev (fun k => laws_toResultS.l0 k l x (i : Int)) (l.map conv) := by
  induction d with
  | zero =>
    intro i x hi hx hp
    refine ev_some fun k => ?_
    simp only [laws_toResultS.l0]
    rw [if_neg (by omega)]
    congr 1
    apply List.ext_getElem?
    intro j
    by_cases hj : j < i
    · exact hp j hj
    · rw [List.getElem?_eq_none (by omega), List.getElem?_eq_none (by simp; omega)]
  | succ d ih =>
    intro i x hi hx hp
    have hlt : i < l.length := by omega
    refine Ev.step (f := fun k => laws_toResultS.l0 k l (x.set i (conv l[i])) ((i + 1 : Nat) : Int)) (fun k => ?_) (ih (i + 1) (x.set i (conv l[i])) (by omega) (by rw [List.length_set]; exact hx) ?_)
    · simp only [laws_toResultS.l0]
      rw [if_pos (by omega), if_pos (by omega), rdA l i hlt]
      simp only [laws_toResult.f, Option.bind_some]
      rw [if_pos (by omega), wrap_id (by omega) (by omega), Int.toNat_natCast]
      rfl
    · intro j hj
      by_cases e : j = i
      · subst e
        rw [List.getElem?_set_self (by omega)]
        simp [hlt]
      · rw [List.getElem?_set_ne (by omega)]
        exact hp j (by omega)
theorem toResultS_ev (l : List S71) (hl : l.length ≤ 1048576) : Ev (fun k => laws_toResultS.f k l) (l.map conv) := by
  refine Ev.congr (f := fun k => laws_toResultS.l0 k l (List.replicate l.length z68) ((0 : Nat) : Int)) (fun k => ?_) (toResultS_l0 l hl l.length 0 (List.replicate l.length z68) (by omega) List.length_replicate (fun j hj => by omega))
  unfold laws_toResultS.f
  rw [if_pos (by omega), if_pos (by omega)]
  simp
theorem toLeague_ev (a b : Int) (l : List S71) (hl : l.length ≤ 1048576) : Ev (fun k => laws_toLeague.f k a b l) (a, b, l.map conv) := by
  unfold laws_toLeague.f
  exact Ev.bind (f := fun _ t => some (a, b, t)) (toResultS_ev l hl) (Ev.now _)

theorem eqResultS_l0 (L : List S68) (hl : L.length ≤ 1048576) (d : Nat) : ∀ i : Nat, i + d = L.length → Ev (fun k => laws_eqResultS.l0 k L L (i : Int)) true := by
  induction d with
  | zero =>
    intro i hi
    refine ev_some fun k => ?_
    simp only [laws_eqResultS.l0]
    rw [if_neg (by omega)]
  | succ d ih =>
    intro i hi
    refine Ev.step (f := fun k => laws_eqResultS.l0 k L L ((i + 1 : Nat) : Int)) (fun k => ?_) (ih (i + 1) (by omega))
    simp only [laws_eqResultS.l0]
    rw [if_pos (by omega), if_pos (by omega), if_pos (by omega)]
    have e : ∀ a b c d : Int, laws_eqResult.f a b c d a b c d = some true := fun a b c d => by simp [laws_eqResult.f]
    rw [e, wrap_id (by omega) (by omega)]
    rfl
theorem eqResultS_ev (L : List S68) (hl : L.length ≤ 1048576) : Ev (fun k => laws_eqResultS.f k L L) true := by
  refine Ev.congr (f := fun k => laws_eqResultS.l0 k L L ((0 : Nat) : Int)) (fun k => ?_) (eqResultS_l0 L hl L.length 0 (by omega))
  unfold laws_eqResultS.f
  rw [if_pos rfl]
  rfl
theorem eqLeague_ev (a b : Int) (L : List S68) (hl : L.length ≤ 1048576) : Ev (fun k => laws_eqLeague.f k a b L a b L) true := by
  refine Ev.congr (f := fun k => (laws_eqResultS.f k L L).bind fun t => if t = true then some true else some false) (fun k => ?_) (Ev.bind (f := fun _ t => if t = true then some true else some false) (eqResultS_ev L hl) (Ev.now _))
  unfold laws_eqLeague.f
  rw [if_pos rfl, if_pos rfl]

/-! what a good league is -/
def okR (T : Int) (r : S68) : Bool := decide (0 ≤ r.f0 ∧ r.f0 ≤ T - 1) && (decide (0 ≤ r.f1 ∧ r.f1 ≤ T - 1) && (!decide (r.f0 = r.f1) && (decide (0 ≤ r.f2 ∧ r.f2 ≤ 20) && decide (0 ≤ r.f3 ∧ r.f3 ≤ 20))))
def seenB (L : List S68) (i : Nat) (x y : Int) : Bool := (L.take i).any fun s => decide (s.f0 = x ∧ s.f1 = y)
def goodFrom (T : Int) (L : List S68) : Nat → Nat → Bool
  | _, 0 => true
  | i, d + 1 => okR T (L.getD i z68) && (!seenB L i (L.getD i z68).f0 (L.getD i z68).f1 && goodFrom T L (i + 1) d)
def goodB (a b : Int) (L : List S68) : Bool := decide (2 ≤ a ∧ a ≤ 8) && (decide (2 ≤ b ∧ b ≤ 3) && (!decide ((L.length : Int) > 56) && goodFrom a L 0 L.length))

theorem lgResult_eq (T : Int) (hT : 2 ≤ T ∧ T ≤ 8) (r : S68) : spec_lgResult.f T r.f0 r.f1 r.f2 r.f3 = some (okR T r) := by
  unfold spec_lgResult.f okR
  simp only [l1In_eq, wrap_id (i := T - 1) (by omega) (by omega), Option.bind_some]
  by_cases h2 : r.f0 = r.f1
  · cases decide (0 ≤ r.f0 ∧ r.f0 ≤ T - 1) <;> cases decide (0 ≤ r.f1 ∧ r.f1 ≤ T - 1) <;> cases decide (0 ≤ r.f2 ∧ r.f2 ≤ 20) <;> cases decide (0 ≤ r.f3 ∧ r.f3 ≤ 20) <;> simp [h2]
  · cases decide (0 ≤ r.f0 ∧ r.f0 ≤ T - 1) <;> cases decide (0 ≤ r.f1 ∧ r.f1 ≤ T - 1) <;> cases decide (0 ≤ r.f2 ∧ r.f2 ≤ 20) <;> cases decide (0 ≤ r.f3 ∧ r.f3 ≤ 20) <;> simp [h2]

theorem lgGood_l1 (L : List S68) (n a b : Int) (i : Nat) (hi : i < 1048576) (y : List S68) (x0 x1 x2 x3 : Int) (res : Bool) (hy : y.length ≤ 1048576) (hk : Ev (fun k => spec_lgGood.l0 k L n ((i + 1 : Nat) : Int) a b L) res) (d : Nat) :
    ∀ j : Nat, j + d = y.length → Ev (fun k => spec_lgGood.l1 k L n (i : Int) y (y.length : Int) (j : Int) a b L x0 x1 x2 x3) (!(y.drop j).any (fun s => decide (s.f0 = x0 ∧ s.f1 = x1)) && res) := by
  induction d with
  | zero =>
    intro j hj
    rw [List.drop_eq_nil_of_le (by omega)]
    simp only [List.any_nil, Bool.not_false, Bool.true_and]
    refine Ev.step (f := fun k => spec_lgGood.l0 k L n ((i + 1 : Nat) : Int) a b L) (fun k => ?_) hk
    simp only [spec_lgGood.l1]
    rw [if_neg (by omega), wrap_id (by omega) (by omega)]
    rfl
  | succ d ih =>
    intro j hj
    have hlt : j < y.length := by omega
    rw [List.drop_eq_getElem_cons hlt, List.any_cons]
    by_cases e : y[j].f0 = x0 ∧ y[j].f1 = x1
    · simp only [e, and_self, decide_true, Bool.true_or, Bool.not_true, Bool.false_and]
      refine ev_some fun k => ?_
      simp only [spec_lgGood.l1]
      rw [if_pos (by omega), if_pos (by omega), if_pos (by omega), rdB y j hlt, if_pos e.1, if_pos e.2]
    · simp only [e, decide_false, Bool.false_or]
      refine Ev.step (f := fun k => spec_lgGood.l1 k L n (i : Int) y (y.length : Int) ((j + 1 : Nat) : Int) a b L x0 x1 x2 x3) (fun k => ?_) (ih (j + 1) (by omega))
      simp only [spec_lgGood.l1]
      rw [if_pos (by omega), if_pos (by omega), if_pos (by omega), rdB y j hlt, wrap_id (by omega) (by omega)]
      by_cases e0 : y[j].f0 = x0
      · rw [if_pos e0, if_neg (fun e1 => e ⟨e0, e1⟩)]
        rfl
      · rw [if_neg e0]
        rfl

theorem lgGood_l0 (L : List S68) (a b : Int) (ha : 2 ≤ a ∧ a ≤ 8) (hl : L.length ≤ 1048576) (d : Nat) : ∀ i : Nat, i + d = L.length → Ev (fun k => spec_lgGood.l0 k L (L.length : Int) (i : Int) a b L) (goodFrom a L i d) := by
  induction d with
  | zero =>
    intro i hi
    refine ev_some fun k => ?_
    simp only [spec_lgGood.l0]
    rw [if_neg (by omega)]
    rfl
  | succ d ih =>
    intro i hi
    have hlt : i < L.length := by omega
    have eg : L.getD i z68 = L[i] := by simp [List.getD_eq_getElem?_getD, List.getElem?_eq_getElem hlt]
    unfold goodFrom
    rw [eg]
    have hmain : ∀ k, spec_lgGood.l0 (k + 1) L (L.length : Int) (i : Int) a b L = (if okR a L[i] = true then (spec_lgGood.l1 k L (L.length : Int) (i : Int) (L.take i) ((L.take i).length : Int) ((0 : Nat) : Int) a b L L[i].f0 L[i].f1 L[i].f2 L[i].f3) else some false) := by
      intro k
      simp only [spec_lgGood.l0]
      rw [if_pos (by omega), if_pos (by omega), if_pos (by omega), rdB L i hlt, lgResult_eq a ha]
      simp only [Option.bind_some]
      rw [if_pos (show (i : Int) ≤ (L.length : Int) by omega), Int.toNat_natCast]
      rfl
    by_cases hok : okR a L[i] = true
    · rw [hok]
      have hi2 := lgGood_l1 L (L.length : Int) a b i (by omega) (L.take i) L[i].f0 L[i].f1 L[i].f2 L[i].f3 _ (by simp; omega) (ih (i + 1) (by omega)) (L.take i).length 0 (by omega)
      refine Ev.step (fun k => (hmain k).trans (by rw [if_pos hok])) ?_
      simpa [seenB] using hi2
    · rw [Bool.not_eq_true] at hok
      rw [hok]
      refine ev_some fun k => (hmain k).trans (by rw [hok]; rfl)

theorem lgGood_ev (a b : Int) (L : List S68) (hl : L.length ≤ 1048576) : Ev (fun k => spec_lgGood.f k a b L) (goodB a b L) := by
  unfold spec_lgGood.f goodB
  simp only [l1In_eq, Option.bind_some]
  have hj : ∀ x : Bool, 2 ≤ a ∧ a ≤ 8 → Ev (fun k => spec_lgGood.j0 k x a b L) (!x && goodFrom a L 0 L.length) := by
    intro x ha
    cases x
    · exact Ev.step (f := fun k => spec_lgGood.l0 k L (L.length : Int) ((0 : Nat) : Int) a b L) (fun k => by simp only [spec_lgGood.j0]; rw [if_neg (by simp)]; rfl) (by simpa using lgGood_l0 L a b ha hl L.length 0 (by omega))
    · exact ev_some fun k => by simp [spec_lgGood.j0]
  have hf : Ev (fun k => spec_lgGood.j0 k true a b L) false := ev_some fun k => by simp [spec_lgGood.j0]
  by_cases ha : 2 ≤ a ∧ a ≤ 8
  · by_cases hb : 2 ≤ b ∧ b ≤ 3
    · simp only [ha, hb, and_self, decide_true, if_true, Bool.true_and]
      exact hj _ ha
    · simp only [ha, hb, and_self, decide_true, if_true, decide_false, Bool.false_and, Bool.and_false]
      exact hf
  · simp only [ha, decide_false, Bool.false_and]
    exact hf

theorem g_within_eq (a b c : Int) : g_within.f a b c = some (decide (b ≤ a ∧ a ≤ c)) := by
  unfold g_within.f
  by_cases h : b ≤ a
  · rw [if_pos h]
    simp [h]
  · rw [if_neg h]
    simp [h]
theorem seenHas_eq (L : List S68) (i : Nat) (x y : Int) : seenHas.f L (i : Int) x y = some (seenB L i x y) := by
  unfold seenHas.f seenL seenB
  rw [Int.toNat_natCast]
  congr 1
  rw [Bool.eq_iff_iff]
  simp only [decide_eq_true_eq, List.mem_reverse, List.mem_map, List.any_eq_true, Prod.mk.injEq]
theorem isLeague_l0 (L : List S68) (a b : Int) (ha : 2 ≤ a ∧ a ≤ 8) (hl : L.length ≤ 1048576) (d : Nat) : ∀ i : Nat, i + d = L.length → Ev (fun k => impl_IsLeague.l0 k L (L.length : Int) (i : Int) a b L) (goodFrom a L i d) := by
  induction d with
  | zero =>
    intro i hi
    refine ev_some fun k => ?_
    simp only [impl_IsLeague.l0]
    rw [if_neg (by omega)]
    rfl
  | succ d ih =>
    intro i hi
    have hlt : i < L.length := by omega
    have eg : L.getD i z68 = L[i] := by simp [List.getD_eq_getElem?_getD, List.getElem?_eq_getElem hlt]
    unfold goodFrom okR
    rw [eg]
    have hstep : wrap64 ((i : Int) + 1) = ((i + 1 : Nat) : Int) := by rw [wrap_id (by omega) (by omega)]; rfl
    have hmain : ∀ k, impl_IsLeague.l0 (k + 1) L (L.length : Int) (i : Int) a b L = (if ((decide (0 ≤ L[i].f0 ∧ L[i].f0 ≤ a - 1) && (decide (0 ≤ L[i].f1 ∧ L[i].f1 ≤ a - 1) && (!decide (L[i].f0 = L[i].f1) && (decide (0 ≤ L[i].f2 ∧ L[i].f2 ≤ 20) && decide (0 ≤ L[i].f3 ∧ L[i].f3 ≤ 20))))) && !seenB L i L[i].f0 L[i].f1) = true then impl_IsLeague.l0 k L (L.length : Int) ((i + 1 : Nat) : Int) a b L else some false) := by
      intro k
      simp only [impl_IsLeague.l0]
      rw [if_pos (by omega), if_pos (by omega), if_pos (by omega), rdB L i hlt, hstep]
      simp only [g_within_eq, seenHas_eq, wrap_id (i := a - 1) (by omega) (by omega), Option.bind_some]
      by_cases h2 : L[i].f0 = L[i].f1
      · cases decide (0 ≤ L[i].f0 ∧ L[i].f0 ≤ a - 1) <;> cases decide (0 ≤ L[i].f1 ∧ L[i].f1 ≤ a - 1) <;> simp [h2]
      · cases decide (0 ≤ L[i].f0 ∧ L[i].f0 ≤ a - 1) <;> cases decide (0 ≤ L[i].f1 ∧ L[i].f1 ≤ a - 1) <;> cases decide (0 ≤ L[i].f2 ∧ L[i].f2 ≤ 20) <;> cases decide (0 ≤ L[i].f3 ∧ L[i].f3 ≤ 20) <;> cases seenB L i L[i].f0 L[i].f1 <;> simp [h2]
    rw [← Bool.and_assoc]
    revert hmain
    generalize ((decide (0 ≤ L[i].f0 ∧ L[i].f0 ≤ a - 1) && (decide (0 ≤ L[i].f1 ∧ L[i].f1 ≤ a - 1) && (!decide (L[i].f0 = L[i].f1) && (decide (0 ≤ L[i].f2 ∧ L[i].f2 ≤ 20) && decide (0 ≤ L[i].f3 ∧ L[i].f3 ≤ 20))))) && !seenB L i L[i].f0 L[i].f1) = c
    intro hmain
    cases c
    · exact ev_some fun k => by rw [hmain k]; simp
    · exact Ev.step (fun k => (hmain k).trans (by rw [if_pos rfl])) (by simpa using ih (i + 1) (by omega))
theorem isLeague_ev (a b : Int) (L : List S68) (hl : L.length ≤ 1048576) : Ev (fun k => impl_IsLeague.f k a b L) (goodB a b L) := by
  unfold impl_IsLeague.f goodB
  simp only [g_within_eq, Option.bind_some]
  have hj : ∀ x : Bool, 2 ≤ a ∧ a ≤ 8 → Ev (fun k => impl_IsLeague.j0 k x a b L) (!x && goodFrom a L 0 L.length) := by
    intro x ha
    cases x
    · exact Ev.step (f := fun k => impl_IsLeague.l0 k L (L.length : Int) ((0 : Nat) : Int) a b L) (fun k => by simp only [impl_IsLeague.j0]; rw [if_neg (by simp)]; rfl) (by simpa using isLeague_l0 L a b ha hl L.length 0 (by omega))
    · exact ev_some fun k => by simp [impl_IsLeague.j0]
  have hf : Ev (fun k => impl_IsLeague.j0 k true a b L) false := ev_some fun k => by simp [impl_IsLeague.j0]
  by_cases ha : 2 ≤ a ∧ a ≤ 8
  · by_cases hb : 2 ≤ b ∧ b ≤ 3
    · simp only [ha, hb, and_self, decide_true, if_true, Bool.true_and]
      exact hj _ ha
    · simp only [ha, hb, and_self, decide_true, if_true, decide_false, Bool.false_and, Bool.and_false]
      exact hf
  · simp only [ha, decide_false, Bool.false_and]
    exact hf

/-! what is known of a good league -/
theorem okR_of (T : Int) (L : List S68) (d : Nat) : ∀ i : Nat, i + d = L.length → goodFrom T L i d = true → ∀ j, i ≤ j → (h : j < L.length) → okR T L[j] = true := by
  induction d with
  | zero => intro i hi _ j h1 h; omega
  | succ d ih =>
    intro i hi hg j h1 h
    unfold goodFrom at hg
    simp only [Bool.and_eq_true] at hg
    by_cases e : j = i
    · subst e
      have eg : L.getD j z68 = L[j] := by simp [List.getD_eq_getElem?_getD, List.getElem?_eq_getElem h]
      rw [eg] at hg
      exact hg.1
    · exact ih (i + 1) (by omega) hg.2.2 j (by omega) h
structure Good (a b : Int) (L : List S68) : Prop where
  ha : 2 ≤ a ∧ a ≤ 8
  hb : 2 ≤ b ∧ b ≤ 3
  hl : L.length ≤ 56
  hr : ∀ j, (h : j < L.length) → (0 ≤ L[j].f0 ∧ L[j].f0 ≤ a - 1) ∧ (0 ≤ L[j].f1 ∧ L[j].f1 ≤ a - 1) ∧ ¬ L[j].f0 = L[j].f1 ∧ (0 ≤ L[j].f2 ∧ L[j].f2 ≤ 20) ∧ (0 ≤ L[j].f3 ∧ L[j].f3 ≤ 20)
theorem good_of {a b : Int} {L : List S68} (h : goodB a b L = true) : Good a b L := by
  unfold goodB at h
  simp only [Bool.and_eq_true, decide_eq_true_eq, Bool.not_eq_true', decide_eq_false_iff_not] at h
  obtain ⟨h1, h2, h3, h4⟩ := h
  refine ⟨h1, h2, by omega, fun j hj => ?_⟩
  have := okR_of a L L.length 0 (by omega) h4 j (by omega) hj
  unfold okR at this
  simpa only [Bool.and_eq_true, decide_eq_true_eq, Bool.not_eq_true', decide_eq_false_iff_not] using this


/-- A loop over a list, at the element r. -/
theorem at_split {L pre suf : List S68} {r : S68} (hL : L = pre ++ r :: suf) (hb : L.length ≤ 1048576) :
    L.length = pre.length + suf.length + 1 ∧ rd_T68 L (pre.length : Int) = r ∧ wrap64 ((pre.length : Int) + 1) = ((pre ++ [r]).length : Int) ∧ L = (pre ++ [r]) ++ suf := by
  have h1 : L.length = pre.length + suf.length + 1 := by rw [hL]; simp; omega
  refine ⟨h1, ?_, ?_, by rw [hL]; simp⟩
  · rw [hL]
    unfold rd_T68
    simp
  · rw [wrap_id (by omega) (by omega)]
    simp
theorem Good.mem {a b : Int} {L : List S68} (g : Good a b L) {r : S68} (h : r ∈ L) : (0 ≤ r.f0 ∧ r.f0 ≤ a - 1) ∧ (0 ≤ r.f1 ∧ r.f1 ≤ a - 1) ∧ ¬ r.f0 = r.f1 ∧ (0 ≤ r.f2 ∧ r.f2 ≤ 20) ∧ (0 ≤ r.f3 ∧ r.f3 ≤ 20) := by
  obtain ⟨j, hj, rfl⟩ := List.getElem_of_mem h
  exact g.hr j hj

theorem within_eq (a b c : Int) : impl_within.f a b c = some (decide (b ≤ a ∧ a ≤ c)) := by
  unfold impl_within.f
  by_cases h : b ≤ a
  · rw [if_pos h]
    simp [h]
  · rw [if_neg h]
    simp [h]
def teamB (a b : Int) (L : List S68) (t : Int) : Bool := goodB a b L && decide (0 ≤ t ∧ t ≤ a - 1)
theorem lgTeam_ev (a b : Int) (L : List S68) (t : Int) (hl : L.length ≤ 1048576) : Ev (fun k => spec_lgTeam.f k a b L t) (teamB a b L t) := by
  unfold spec_lgTeam.f teamB
  refine Ev.bind (lgGood_ev a b L hl) ?_
  cases h : goodB a b L
  · simp only [Bool.false_eq_true, if_false, Bool.false_and]
    exact Ev.now _
  · have g := (good_of h).ha
    simp only [l1In_eq, wrap_id (i := a - 1) (by omega) (by omega), if_true, Option.bind_some, Bool.true_and]
    exact Ev.now _
theorem isTeam_ev (a b : Int) (L : List S68) (t : Int) (hl : L.length ≤ 1048576) : Ev (fun k => impl_isTeam.f k a b L t) (teamB a b L t) := by
  unfold impl_isTeam.f teamB
  refine Ev.bind (isLeague_ev a b L hl) ?_
  cases h : goodB a b L
  · simp only [Bool.false_eq_true, if_false, Bool.false_and]
    exact Ev.now _
  · have g := (good_of h).ha
    simp only [within_eq, wrap_id (i := a - 1) (by omega) (by omega), if_true, Option.bind_some, Bool.true_and]
    exact Ev.now _
theorem team_of {a b : Int} {L : List S68} {t : Int} (h : teamB a b L t = true) : Good a b L ∧ 0 ≤ t ∧ t ≤ a - 1 := by
  unfold teamB at h
  simp only [Bool.and_eq_true, decide_eq_true_eq] at h
  exact ⟨good_of h.1, h.2⟩

theorem rd_nat (xs : List Int) (n : Nat) (h : n < xs.length) : rd xs (n : Int) = xs[n] := by
  unfold rd
  simp [List.getD_eq_getElem?_getD, List.getElem?_eq_getElem h]
theorem rd_set_same (xs : List Int) (i v : Int) (h0 : 0 ≤ i) (h1 : i < (xs.length : Int)) : rd (xs.set i.toNat v) i = v := by
  unfold rd
  rw [List.getD_eq_getElem?_getD, List.getElem?_set_self (by omega)]
  rfl
theorem rd_set_other (xs : List Int) (i j v : Int) (h0 : 0 ≤ i) (h2 : 0 ≤ j) (hne : i ≠ j) : rd (xs.set i.toNat v) j = rd xs j := by
  unfold rd
  rw [List.getD_eq_getElem?_getD, List.getElem?_set_ne (by omega), ← List.getD_eq_getElem?_getD]
theorem set_rd (xs : List Int) (i : Int) (h0 : 0 ≤ i) (h1 : i < (xs.length : Int)) : xs.set i.toNat (rd xs i) = xs := by
  apply List.ext_getElem?
  intro j
  by_cases e : j = i.toNat
  · subst e
    rw [List.getElem?_set_self (by omega)]
    unfold rd
    rw [List.getD_eq_getElem?_getD, List.getElem?_eq_getElem (by omega)]
    rfl
  · rw [List.getElem?_set_ne (by omega)]
/-- Every element lies between 0 and c. -/
def Upto (c : Int) (xs : List Int) : Prop := ∀ i : Int, 0 ≤ i → i < (xs.length : Int) → 0 ≤ rd xs i ∧ rd xs i ≤ c
theorem Upto.set {c c' : Int} {xs : List Int} (h : Upto c xs) (hc : c ≤ c') {i v : Int} (h0 : 0 ≤ i) (hv : 0 ≤ v ∧ v ≤ c') : Upto c' (xs.set i.toNat v) := by
  intro j hj0 hj1
  rw [List.length_set] at hj1
  by_cases e : i = j
  · subst e
    rw [rd_set_same xs i v h0 hj1]
    exact hv
  · rw [rd_set_other xs i j v h0 hj0 e]
    have := h j hj0 hj1
    omega
theorem Upto.mono {c c' : Int} {xs : List Int} (h : Upto c xs) (hc : c ≤ c') : Upto c' xs := fun j h0 h1 => by have := h j h0 h1; omega
theorem Upto.zeros (n : Nat) : Upto 0 (List.replicate n 0) := by
  intro j h0 h1
  rw [List.length_replicate] at h1
  unfold rd
  rw [List.getD_eq_getElem?_getD, List.getElem?_replicate, if_pos (by omega)]
  simp
/-- What a result adds to the points. -/
def addP (win : Int) (xs : List Int) (r : S68) : List Int :=
  if r.f2 > r.f3 then xs.set r.f0.toNat (rd xs r.f0 + win)
  else if r.f2 < r.f3 then xs.set r.f1.toNat (rd xs r.f1 + win)
  else (xs.set r.f0.toNat (rd xs r.f0 + 1)).set r.f1.toNat (rd xs r.f1 + 1)
theorem addP_len (win : Int) (xs : List Int) (r : S68) : (addP win xs r).length = xs.length := by
  unfold addP
  split
  · simp
  · split
    · simp
    · simp
theorem addP_upto {win c : Int} (hw : 2 ≤ win ∧ win ≤ 3) {xs : List Int} (h : Upto c xs) {r : S68} (h0 : 0 ≤ r.f0 ∧ r.f0 < (xs.length : Int)) (h1 : 0 ≤ r.f1 ∧ r.f1 < (xs.length : Int)) : Upto (c + 3) (addP win xs r) := by
  have u0 := h r.f0 h0.1 h0.2
  have u1 := h r.f1 h1.1 h1.2
  unfold addP
  split
  · exact h.set (by omega) h0.1 (by omega)
  · split
    · exact h.set (by omega) h1.1 (by omega)
    · exact (h.set (c' := c + 3) (by omega) h0.1 (by omega)).set (by omega) h1.1 (by omega)
theorem lgAdd_eq {a win c : Int} {L : List S68} (hw : 2 ≤ win ∧ win ≤ 3) {xs : List Int} (h : Upto c xs) (hc : c ≤ 1000000) {r : S68} (h0 : 0 ≤ r.f0 ∧ r.f0 < (xs.length : Int)) (h1 : 0 ≤ r.f1 ∧ r.f1 < (xs.length : Int)) (hne : ¬ r.f0 = r.f1)
    (h2 : 0 ≤ r.f2 ∧ r.f2 ≤ 20) (h3 : 0 ≤ r.f3 ∧ r.f3 ≤ 20) : spec_lgAdd.f xs win r.f0 r.f1 (wrap64 (r.f2 - r.f3)) = some (addP win xs r) := by
  have u0 := h r.f0 h0.1 h0.2
  have u1 := h r.f1 h1.1 h1.2
  unfold spec_lgAdd.f addP
  rw [wrap_id (i := r.f2 - r.f3) (by omega) (by omega)]
  by_cases c1 : r.f2 > r.f3
  · rw [if_pos (by omega), if_pos h0.1, if_pos h0.2, if_pos c1, wrap_id (by omega) (by omega)]
  · rw [if_neg (by omega), if_neg c1]
    by_cases c2 : r.f2 < r.f3
    · rw [if_pos (by omega), if_pos h1.1, if_pos h1.2, if_pos c2, wrap_id (by omega) (by omega)]
    · rw [if_neg (by omega), if_pos h0.1, if_pos h0.2, if_neg c2, wrap_id (i := rd xs r.f0 + 1) (by omega) (by omega)]
      simp only [Option.bind_some]
      rw [if_pos h1.1, if_pos h1.2, rd_set_other _ _ _ _ h0.1 h1.1 hne, wrap_id (by omega) (by omega)]
theorem points_eq (a win : Int) (L : List S68) (x y : Int) : impl_League_points.f a win L x y = some (if x > y then (win, 0) else if x < y then (0, win) else (1, 1)) := by
  unfold impl_League_points.f
  by_cases c1 : x > y
  · rw [if_pos c1, if_pos c1]
  · rw [if_neg c1, if_neg c1]
    by_cases c2 : x < y
    · rw [if_pos c2, if_pos c2]
    · rw [if_neg c2, if_neg c2]

def allP (win : Int) : List Int → List S68 → List Int
  | ps, [] => ps
  | ps, r :: rs => allP win (addP win ps r) rs
theorem allP_len (win : Int) : ∀ (rs : List S68) (ps : List Int), (allP win ps rs).length = ps.length
  | [], _ => rfl
  | r :: rs, ps => by
    unfold allP
    rw [allP_len win rs, addP_len]
theorem specPts_l0 (a b : Int) (L : List S68) (g : Good a b L) (suf : List S68) : ∀ (pre : List S68) (ps : List Int), L = pre ++ suf → (ps.length : Int) = a → Upto (3 * pre.length) ps →
    Ev (fun k => spec_lgPoints.l0 k ps L (L.length : Int) (pre.length : Int) a b L) (allP b ps suf) := by
  have hb : L.length ≤ 1048576 := by have := g.hl; omega
  have h56 := g.hl
  induction suf with
  | nil =>
    intro pre ps hL hp hu
    have h1 : L.length = pre.length := by rw [hL]; simp
    refine ev_some fun k => ?_
    simp only [spec_lgPoints.l0]
    rw [if_neg (by omega)]
    rfl
  | cons r suf ih =>
    intro pre ps hL hp hu
    obtain ⟨h1, h2, h3, h4⟩ := at_split hL hb
    obtain ⟨r0, r1, r2, r3, r4⟩ := g.mem (r := r) (by rw [hL]; simp)
    have hlen : ((pre ++ [r]).length : Int) = pre.length + 1 := by simp
    have hadd := lgAdd_eq (a := a) (L := L) g.hb hu (by omega) (r := r) (by omega) (by omega) r2 r3 r4
    have hu' := addP_upto g.hb hu (r := r) (by omega) (by omega)
    refine Ev.step (f := fun k => spec_lgPoints.l0 k (addP b ps r) L (L.length : Int) ((pre ++ [r]).length : Int) a b L) (fun k => ?_) (ih (pre ++ [r]) _ h4 (by rw [addP_len]; exact hp) (hu'.mono (by omega)))
    simp only [spec_lgPoints.l0]
    rw [if_pos (by omega), if_pos (by omega), if_pos (by omega), h2, h3, hadd]
    rfl
theorem implPts_l0 (a b : Int) (L : List S68) (g : Good a b L) (suf : List S68) : ∀ (pre : List S68) (ps : List Int), L = pre ++ suf → (ps.length : Int) = a → Upto (3 * pre.length) ps →
    Ev (fun k => impl_League_allPoints.l0 k ps L (L.length : Int) (pre.length : Int) a b L) (allP b ps suf) := by
  have hb : L.length ≤ 1048576 := by have := g.hl; omega
  have h56 := g.hl
  have hwin := g.hb
  induction suf with
  | nil =>
    intro pre ps hL hp hu
    have h1 : L.length = pre.length := by rw [hL]; simp
    refine ev_some fun k => ?_
    simp only [impl_League_allPoints.l0]
    rw [if_neg (by omega)]
    rfl
  | cons r suf ih =>
    intro pre ps hL hp hu
    obtain ⟨h1, h2, h3, h4⟩ := at_split hL hb
    obtain ⟨r0, r1, r2, r3, r4⟩ := g.mem (r := r) (by rw [hL]; simp)
    have hlen : ((pre ++ [r]).length : Int) = pre.length + 1 := by simp
    have hu' := addP_upto g.hb hu (r := r) (by omega) (by omega)
    have u0 := hu r.f0 r0.1 (by omega)
    have u1 := hu r.f1 r1.1 (by omega)
    refine Ev.step (f := fun k => impl_League_allPoints.l0 k (addP b ps r) L (L.length : Int) ((pre ++ [r]).length : Int) a b L) (fun k => ?_) (ih (pre ++ [r]) _ h4 (by rw [addP_len]; exact hp) (hu'.mono (by omega)))
    simp only [impl_League_allPoints.l0]
    rw [if_pos (by omega), if_pos (by omega), if_pos (by omega), h2, h3, points_eq]
    simp only [Option.bind_some]
    rw [if_pos r0.1, if_pos (by omega), if_pos r1.1, if_pos (by omega), rd_set_other _ _ _ _ r0.1 r1.1 r2]
    congr 1
    unfold addP
    by_cases c1 : r.f2 > r.f3
    · simp only [if_pos c1]
      rw [Int.add_zero, wrap_id (i := rd ps r.f1) (by omega) (by omega), wrap_id (i := rd ps r.f0 + b) (by omega) (by omega)]
      have := set_rd (ps.set r.f0.toNat (rd ps r.f0 + b)) r.f1 r1.1 (by rw [List.length_set]; omega)
      rw [rd_set_other _ _ _ _ r0.1 r1.1 r2] at this
      exact this
    · simp only [if_neg c1]
      by_cases c2 : r.f2 < r.f3
      · simp only [if_pos c2]
        rw [Int.add_zero, wrap_id (i := rd ps r.f0) (by omega) (by omega), wrap_id (i := rd ps r.f1 + b) (by omega) (by omega), set_rd ps r.f0 r0.1 (by omega)]
      · simp only [if_neg c2]
        rw [wrap_id (i := rd ps r.f0 + 1) (by omega) (by omega), wrap_id (i := rd ps r.f1 + 1) (by omega) (by omega)]
def ptsOf (a b : Int) (L : List S68) : List Int := allP b (List.replicate a.toNat 0) L
theorem ptsOf_len (a b : Int) (L : List S68) (ha : 0 ≤ a) : ((ptsOf a b L).length : Int) = a := by
  unfold ptsOf
  rw [allP_len, List.length_replicate]
  omega
theorem specPts_ev (a b : Int) (L : List S68) (g : Good a b L) : Ev (fun k => spec_lgPoints.f k a b L) (ptsOf a b L) := by
  have ha := g.ha
  have := specPts_l0 a b L g L [] (List.replicate a.toNat 0) (by simp) (by rw [List.length_replicate]; omega) (by simpa using Upto.zeros a.toNat)
  refine Ev.congr (fun k => ?_) this
  unfold spec_lgPoints.f
  rw [if_pos (by omega), if_pos (by omega)]
  rfl
theorem implPts_ev (a b : Int) (L : List S68) (g : Good a b L) : Ev (fun k => impl_League_allPoints.f k a b L) (ptsOf a b L) := by
  have ha := g.ha
  have := implPts_l0 a b L g L [] (List.replicate a.toNat 0) (by simp) (by rw [List.length_replicate]; omega) (by simpa using Upto.zeros a.toNat)
  refine Ev.congr (fun k => ?_) this
  unfold impl_League_allPoints.f
  rw [if_pos (by omega), if_pos (by omega)]
  rfl


theorem allP_upto {a b : Int} {L : List S68} (g : Good a b L) (rs : List S68) : ∀ (ps : List Int) (c : Int), (∀ r ∈ rs, r ∈ L) → (ps.length : Int) = a → Upto c ps → Upto (c + 3 * rs.length) (allP b ps rs) := by
  induction rs with
  | nil =>
    intro ps c _ _ hu
    simpa [allP] using hu
  | cons r rs ih =>
    intro ps c hm hp hu
    obtain ⟨r0, r1, _⟩ := g.mem (r := r) (hm r (by simp))
    have h1 := addP_upto g.hb hu (r := r) ⟨r0.1, by omega⟩ ⟨r1.1, by omega⟩
    have h2 := ih (addP b ps r) (c + 3) (fun x hx => hm x (by simp [hx])) (by rw [addP_len]; exact hp) h1
    unfold allP
    exact h2.mono (by simp only [List.length_cons]; omega)


theorem setL_mid (xs ys : List (List Int)) (r v : List Int) : (xs ++ r :: ys).set xs.length v = xs ++ v :: ys := by simp
/-! the goals of each team -/
def gA (t : Int) (r : S68) : Int := if t = r.f0 then r.f2 else if t = r.f1 then r.f3 else 0
def gB (t : Int) (r : S68) : Int := if t = r.f0 then r.f3 else if t = r.f1 then r.f2 else 0
def sA (t : Int) (P : List S68) : Int := (P.map (gA t)).sum
def sB (t : Int) (P : List S68) : Int := (P.map (gB t)).sum
theorem sA_snoc (t : Int) (P : List S68) (r : S68) : sA t (P ++ [r]) = sA t P + gA t r := by simp [sA]
theorem sB_snoc (t : Int) (P : List S68) (r : S68) : sB t (P ++ [r]) = sB t P + gB t r := by simp [sB]
def Few (P : List S68) : Prop := ∀ r ∈ P, (0 ≤ r.f2 ∧ r.f2 ≤ 20) ∧ (0 ≤ r.f3 ∧ r.f3 ≤ 20)
theorem gA_le (t : Int) (r : S68) (h : (0 ≤ r.f2 ∧ r.f2 ≤ 20) ∧ (0 ≤ r.f3 ∧ r.f3 ≤ 20)) : 0 ≤ gA t r ∧ gA t r ≤ 20 := by
  unfold gA
  split
  · exact h.1
  · split
    · exact h.2
    · omega
theorem gB_le (t : Int) (r : S68) (h : (0 ≤ r.f2 ∧ r.f2 ≤ 20) ∧ (0 ≤ r.f3 ∧ r.f3 ≤ 20)) : 0 ≤ gB t r ∧ gB t r ≤ 20 := by
  unfold gB
  split
  · exact h.2
  · split
    · exact h.1
    · omega
theorem sA_le (t : Int) (P : List S68) (h : Few P) : 0 ≤ sA t P ∧ sA t P ≤ 20 * P.length := by
  induction P with
  | nil => simp [sA]
  | cons r P ih =>
    have h1 := gA_le t r (h r (by simp))
    have h2 := ih (fun x hx => h x (by simp [hx]))
    simp only [sA, List.map_cons, List.sum_cons, List.length_cons] at h2 ⊢
    omega
theorem sB_le (t : Int) (P : List S68) (h : Few P) : 0 ≤ sB t P ∧ sB t P ≤ 20 * P.length := by
  induction P with
  | nil => simp [sB]
  | cons r P ih =>
    have h1 := gB_le t r (h r (by simp))
    have h2 := ih (fun x hx => h x (by simp [hx]))
    simp only [sB, List.map_cons, List.sum_cons, List.length_cons] at h2 ⊢
    omega
def rows (m : Nat) (P : List S68) : List (List Int) := (List.range m).map fun (t : Nat) => [sA (t : Int) P, sB (t : Int) P]
theorem rows_len (m : Nat) (P : List S68) : (rows m P).length = m := by simp [rows]
theorem rows_at (m : Nat) (P : List S68) (j : Nat) : (rows m P)[j]? = if j < m then some [sA (j : Int) P, sB (j : Int) P] else none := by
  unfold rows
  rw [List.getElem?_map]
  by_cases h : j < m
  · simp [h]
  · simp [h]
theorem rows_rd (m : Nat) (P : List S68) (i : Int) (h0 : 0 ≤ i) (h1 : i < (m : Int)) : rd_L3 (rows m P) i = [sA i P, sB i P] := by
  unfold rd_L3
  rw [List.getD_eq_getElem?_getD, rows_at, if_pos (by omega), show ((i.toNat : Nat) : Int) = i by omega]
  rfl
theorem rdL_set_same (X : List (List Int)) (i : Int) (v : List Int) (h0 : 0 ≤ i) (h1 : i < (X.length : Int)) : rd_L3 (X.set i.toNat v) i = v := by
  unfold rd_L3
  rw [List.getD_eq_getElem?_getD, List.getElem?_set_self (by omega)]
  rfl
theorem rdL_set_other (X : List (List Int)) (i j : Int) (v : List Int) (h0 : 0 ≤ i) (h2 : 0 ≤ j) (hne : ¬ i = j) : rd_L3 (X.set i.toNat v) j = rd_L3 X j := by
  unfold rd_L3
  rw [List.getD_eq_getElem?_getD, List.getElem?_set_ne (by omega), ← List.getD_eq_getElem?_getD]
theorem rows_snoc (m : Nat) (P : List S68) (r : S68) (h0 : 0 ≤ r.f0 ∧ r.f0 < (m : Int)) (h1 : 0 ≤ r.f1 ∧ r.f1 < (m : Int)) (hne : ¬ r.f0 = r.f1) :
    ((rows m P).set r.f0.toNat [sA r.f0 P + r.f2, sB r.f0 P + r.f3]).set r.f1.toNat [sA r.f1 P + r.f3, sB r.f1 P + r.f2] = rows m (P ++ [r]) := by
  apply List.ext_getElem?
  intro j
  have hl0 : r.f0.toNat < (rows m P).length := by rw [rows_len]; omega
  have hl1 : r.f1.toNat < ((rows m P).set r.f0.toNat [sA r.f0 P + r.f2, sB r.f0 P + r.f3]).length := by rw [List.length_set, rows_len]; omega
  rw [rows_at]
  by_cases e1 : j = r.f1.toNat
  · subst e1
    rw [List.getElem?_set_self hl1, if_pos (by omega), show ((r.f1.toNat : Nat) : Int) = r.f1 by omega, sA_snoc, sB_snoc]
    unfold gA gB
    rw [if_neg (by omega), if_pos rfl, if_neg (by omega), if_pos rfl]
  · rw [List.getElem?_set_ne (by omega)]
    by_cases e0 : j = r.f0.toNat
    · subst e0
      rw [List.getElem?_set_self hl0, if_pos (by omega), show ((r.f0.toNat : Nat) : Int) = r.f0 by omega, sA_snoc, sB_snoc]
      unfold gA gB
      rw [if_pos rfl, if_pos rfl]
    · rw [List.getElem?_set_ne (by omega), rows_at]
      by_cases hj : j < m
      · rw [if_pos hj, if_pos hj, sA_snoc, sB_snoc]
        unfold gA gB
        rw [if_neg (by omega), if_neg (by omega), if_neg (by omega), if_neg (by omega), Int.add_zero, Int.add_zero]
      · rw [if_neg hj, if_neg hj]
theorem Few.of {a b : Int} {L P Q : List S68} (g : Good a b L) (h : L = P ++ Q) : Few P := by
  intro r hr
  have := g.mem (r := r) (by rw [h]; simp [hr])
  exact ⟨this.2.2.2.1, this.2.2.2.2⟩
theorem specGoals_l1 (a b : Int) (L : List S68) (g : Good a b L) (x : List (List Int)) (hx : x.length ≤ 1000) (t : Int) (res : List (List Int))
    (hk : Ev (fun k => spec_lgGoals.l0 k (x ++ [[sA t L, sB t L]]) (wrap64 (t + 1)) a b L) res) (suf : List S68) : ∀ pre : List S68, L = pre ++ suf →
    Ev (fun k => spec_lgGoals.l1 k x t (sA t pre) (sB t pre) L (L.length : Int) (pre.length : Int) a b L) res := by
  have hb : L.length ≤ 1048576 := by have := g.hl; omega
  have h56 := g.hl
  induction suf with
  | nil =>
    intro pre hL
    have h1 : L.length = pre.length := by rw [hL]; simp
    have h2 : L = pre := by rw [hL]; simp
    refine Ev.step (fun k => ?_) hk
    simp only [spec_lgGoals.l1]
    rw [if_neg (by omega), if_pos (by omega), ← h2]
  | cons r suf ih =>
    intro pre hL
    obtain ⟨h1, h2, h3, h4⟩ := at_split hL hb
    obtain ⟨r0, r1, r2, r3, r4⟩ := g.mem (r := r) (by rw [hL]; simp)
    have hA := sA_le t pre (Few.of g hL)
    have hB := sB_le t pre (Few.of g hL)
    have hi := ih (pre ++ [r]) h4
    rw [sA_snoc, sB_snoc] at hi
    refine Ev.step (fun k => ?_) hi
    simp only [spec_lgGoals.l1]
    rw [if_pos (by omega), if_pos (by omega), if_pos (by omega), h2, h3]
    unfold gA gB
    by_cases e0 : t = r.f0
    · rw [if_pos e0, if_pos e0, if_pos e0, wrap_id (by omega) (by omega), wrap_id (by omega) (by omega)]
    · rw [if_neg e0, if_neg e0, if_neg e0]
      by_cases e1 : t = r.f1
      · rw [if_pos e1, if_pos e1, if_pos e1, wrap_id (by omega) (by omega), wrap_id (by omega) (by omega)]
      · rw [if_neg e1, if_neg e1, if_neg e1, Int.add_zero, Int.add_zero]
theorem rows_succ (m : Nat) (P : List S68) : rows (m + 1) P = rows m P ++ [[sA (m : Int) P, sB (m : Int) P]] := by
  unfold rows
  rw [List.range_succ, List.map_append]
  rfl
theorem specGoals_l0 (a b : Int) (L : List S68) (g : Good a b L) (d : Nat) : ∀ i : Nat, ((i + d : Nat) : Int) = a → Ev (fun k => spec_lgGoals.l0 k (rows i L) (i : Int) a b L) (rows a.toNat L) := by
  have ha := g.ha
  induction d with
  | zero =>
    intro i hi
    refine ev_some fun k => ?_
    simp only [spec_lgGoals.l0]
    rw [if_neg (by omega), show a.toNat = i by omega]
  | succ d ih =>
    intro i hi
    have hk := ih (i + 1) (by omega)
    rw [rows_succ] at hk
    have h1 := specGoals_l1 a b L g (rows i L) (by rw [rows_len]; omega) (i : Int) (rows a.toNat L) (by rw [wrap_id (by omega) (by omega)]; exact hk) L [] rfl
    refine Ev.step (fun k => ?_) h1
    simp only [spec_lgGoals.l0]
    rw [if_pos (by omega)]
    rfl
theorem specGoals_ev (a b : Int) (L : List S68) (g : Good a b L) : Ev (fun k => spec_lgGoals.f k a b L) (rows a.toNat L) := by
  have ha := g.ha
  have := specGoals_l0 a b L g a.toNat 0 (by omega)
  simpa [spec_lgGoals.f, rows] using this
theorem implGoals_l1 (m : Nat) (a b : Int) (L : List S68) (g : Good a b L) (hm : (m : Int) = a) (suf : List S68) : ∀ pre : List S68, L = pre ++ suf →
    Ev (fun k => impl_GoalsOfTeams.l1 k (rows m pre) L (L.length : Int) (pre.length : Int)) (rows m L, true) := by
  have hb : L.length ≤ 1048576 := by have := g.hl; omega
  have h56 := g.hl
  have ha := g.ha
  induction suf with
  | nil =>
    intro pre hL
    have h1 : L.length = pre.length := by rw [hL]; simp
    have h2 : L = pre := by rw [hL]; simp
    refine ev_some fun k => ?_
    simp only [impl_GoalsOfTeams.l1]
    rw [if_neg (by omega), ← h2]
  | cons r suf ih =>
    intro pre hL
    obtain ⟨h1, h2, h3, h4⟩ := at_split hL hb
    obtain ⟨r0, r1, r2, r3, r4⟩ := g.mem (r := r) (by rw [hL]; simp)
    have f := Few.of g hL
    have hA0 := sA_le r.f0 pre f
    have hB0 := sB_le r.f0 pre f
    have hA1 := sA_le r.f1 pre f
    have hB1 := sB_le r.f1 pre f
    have hi := ih (pre ++ [r]) h4
    rw [← rows_snoc m pre r ⟨r0.1, by omega⟩ ⟨r1.1, by omega⟩ r2] at hi
    have hlen : ((rows m pre).length : Int) = m := by rw [rows_len]
    refine Ev.step (fun k => ?_) hi
    simp only [impl_GoalsOfTeams.l1]
    rw [if_pos (by omega), if_pos (by omega), if_pos (by omega), h2, h3, if_pos r0.1, if_pos (by omega)]
    rw [rows_rd m pre r.f0 r0.1 (by omega)]
    simp only [Option.bind_some]
    have q0 : rd [sA r.f0 pre, sB r.f0 pre] 0 = sA r.f0 pre := rfl
    have q1 : ([sA r.f0 pre, sB r.f0 pre] : List Int).set (0 : Int).toNat (wrap64 (sA r.f0 pre + r.f2)) = [sA r.f0 pre + r.f2, sB r.f0 pre] := by rw [wrap_id (by omega) (by omega)]; rfl
    rw [q0, q1, rdL_set_same _ _ _ r0.1 (by omega)]
    have q2 : rd [sA r.f0 pre + r.f2, sB r.f0 pre] 1 = sB r.f0 pre := rfl
    have q3 : ([sA r.f0 pre + r.f2, sB r.f0 pre] : List Int).set (1 : Int).toNat (wrap64 (sB r.f0 pre + r.f3)) = [sA r.f0 pre + r.f2, sB r.f0 pre + r.f3] := by rw [wrap_id (by omega) (by omega)]; rfl
    rw [q2, q3, List.set_set, rdL_set_other _ _ _ _ r0.1 r1.1 r2, rows_rd m pre r.f1 r1.1 (by omega)]
    have q4 : rd [sA r.f1 pre, sB r.f1 pre] 0 = sA r.f1 pre := rfl
    have q5 : ([sA r.f1 pre, sB r.f1 pre] : List Int).set (0 : Int).toNat (wrap64 (sA r.f1 pre + r.f3)) = [sA r.f1 pre + r.f3, sB r.f1 pre] := by rw [wrap_id (by omega) (by omega)]; rfl
    rw [q4, q5, rdL_set_same _ _ _ r1.1 (by rw [List.length_set]; omega)]
    have q6 : rd [sA r.f1 pre + r.f3, sB r.f1 pre] 1 = sB r.f1 pre := rfl
    have q7 : ([sA r.f1 pre + r.f3, sB r.f1 pre] : List Int).set (1 : Int).toNat (wrap64 (sB r.f1 pre + r.f2)) = [sA r.f1 pre + r.f3, sB r.f1 pre + r.f2] := by rw [wrap_id (by omega) (by omega)]; rfl
    rw [q6, q7, List.set_set]
    have p1 : (0 : Int) < (([sA r.f0 pre, sB r.f0 pre] : List Int).length : Int) := by simp
    have p2 : (1 : Int) < (([sA r.f0 pre + r.f2, sB r.f0 pre] : List Int).length : Int) := by simp
    have p3 : (0 : Int) < (([sA r.f1 pre, sB r.f1 pre] : List Int).length : Int) := by simp
    have p4 : (1 : Int) < (([sA r.f1 pre + r.f3, sB r.f1 pre] : List Int).length : Int) := by simp
    rw [if_pos p1, if_pos p2, if_pos r1.1, if_pos (by omega), if_pos p3, if_pos p4]
theorem implGoals_l0 (a b : Int) (L : List S68) (m : Nat) (hm : (m : Int) = a) (hs : m ≤ 1000) (res : List (List Int) × Bool) (hk : Ev (fun k => impl_GoalsOfTeams.l1 k (rows m []) L (L.length : Int) 0) res) (d : Nat) :
    ∀ i : Nat, i + d = m → Ev (fun k => impl_GoalsOfTeams.l0 k (List.replicate i [0, 0] ++ List.replicate d []) (m : Int) (i : Int) a b L) res := by
  induction d with
  | zero =>
    intro i hi
    have e : List.replicate i ([0, 0] : List Int) ++ List.replicate 0 [] = rows m [] := by
      apply List.ext_getElem?
      intro j
      rw [rows_at, List.replicate_zero, List.append_nil, List.getElem?_replicate]
      by_cases hj : j < i
      · rw [if_pos hj, if_pos (by omega)]
        rfl
      · rw [if_neg hj, if_neg (by omega)]
    rw [e]
    refine Ev.step (fun k => ?_) hk
    simp only [impl_GoalsOfTeams.l0]
    rw [if_neg (by omega)]
  | succ d ih =>
    intro i hi
    have hi2 := ih (i + 1) (by omega)
    have e : (List.replicate i ([0, 0] : List Int) ++ List.replicate (d + 1) []).set (i : Int).toNat [0, 0] = List.replicate (i + 1) [0, 0] ++ List.replicate d [] := by
      have h := setL_mid (List.replicate i ([0, 0] : List Int)) (List.replicate d []) [] [0, 0]
      rw [List.length_replicate] at h
      rw [Int.toNat_natCast, List.replicate_succ, h, List.replicate_succ']
      simp
    refine Ev.step (fun k => ?_) hi2
    simp only [impl_GoalsOfTeams.l0]
    rw [if_pos (by omega), if_pos (by omega), if_pos (by simp; omega), e, wrap_id (by omega) (by omega)]
    rfl
theorem rows_two (m : Nat) (P : List S68) : ∀ x ∈ rows m P, x.length ≤ 2 := by
  intro x hx
  unfold rows at hx
  obtain ⟨t, _, rfl⟩ := List.mem_map.1 hx
  simp

/-! the table -/
structure Tab (m : Nat) (pts : List Int) (gs : List (List Int)) (p g0 g1 : Int → Int) : Prop where
  m8 : m ≤ 8
  lp : pts.length = m
  lg : gs.length = m
  hp : ∀ i, 0 ≤ i → i < (m : Int) → rd pts i = p i
  hg : ∀ i, 0 ≤ i → i < (m : Int) → rd_L3 gs i = [g0 i, g1 i]
  bp : ∀ i, 0 ≤ i → i < (m : Int) → 0 ≤ p i ∧ p i ≤ 10000
  b0 : ∀ i, 0 ≤ i → i < (m : Int) → 0 ≤ g0 i ∧ g0 i ≤ 10000
  b1 : ∀ i, 0 ≤ i → i < (m : Int) → 0 ≤ g1 i ∧ g1 i ≤ 10000
def lexA (p g0 g1 : Int → Int) (x y : Int) : Prop := p y < p x ∨ (p x = p y ∧ (g0 y - g1 y < g0 x - g1 x ∨ (g0 x - g1 x = g0 y - g1 y ∧ g0 y < g0 x)))
def lexT (p g0 g1 : Int → Int) (x y : Int) : Prop := p y < p x ∨ (p x = p y ∧ (g0 y - g1 y < g0 x - g1 x ∨ (g0 x - g1 x = g0 y - g1 y ∧ (g0 y < g0 x ∨ (g0 x = g0 y ∧ x < y)))))
section
variable {p g0 g1 : Int → Int}
theorem lexT_irrefl (x : Int) : ¬ lexT p g0 g1 x x := by unfold lexT; omega
theorem lexT_trans {x y z : Int} (h : lexT p g0 g1 x y) (k : lexT p g0 g1 y z) : lexT p g0 g1 x z := by unfold lexT at *; omega
theorem lexT_total {x y : Int} (h : x ≠ y) : lexT p g0 g1 x y ∨ lexT p g0 g1 y x := by unfold lexT; omega
theorem lexT_asymm {x y : Int} (h : lexT p g0 g1 x y) : ¬ lexT p g0 g1 y x := fun k => lexT_irrefl x (lexT_trans h k)
theorem lexT_of_A {x y : Int} (h : lexA p g0 g1 x y) : lexT p g0 g1 x y := by unfold lexA at h; unfold lexT; omega
theorem lexT_of_notA {x y : Int} (h : ¬ lexA p g0 g1 x y) (hl : y < x) : lexT p g0 g1 y x := by unfold lexA at h; unfold lexT; omega
end
theorem cmpT_neg {m : Nat} {pts : List Int} {gs : List (List Int)} {p g0 g1 : Int → Int} (T : Tab m pts gs p g0 g1) (x y : Int) (x0 : 0 ≤ x) (x1 : x < (m : Int)) (y0 : 0 ≤ y) (y1 : y < (m : Int)) : (cmpT pts gs x y < 0) ↔ lexT p g0 g1 x y := by
  have m8 := T.m8
  have q1 := T.bp x x0 x1
  have q2 := T.bp y y0 y1
  have q3 := T.b0 x x0 x1
  have q4 := T.b0 y y0 y1
  have q5 := T.b1 x x0 x1
  have q6 := T.b1 y y0 y1
  have e1 : ∀ u v : Int, rd [u, v] 0 = u := fun _ _ => rfl
  have e2 : ∀ u v : Int, rd [u, v] 1 = v := fun _ _ => rfl
  unfold cmpT gdf
  rw [T.hp x x0 x1, T.hp y y0 y1, T.hg x x0 x1, T.hg y y0 y1, e1, e1, e2, e2]
  rw [wrap_id (i := g0 x - g1 x) (by omega) (by omega), wrap_id (i := g0 y - g1 y) (by omega) (by omega), wrap_id (i := x - y) (by omega) (by omega), wrap_id (i := g0 y - g0 x) (by omega) (by omega), wrap_id (i := g0 y - g1 y - (g0 x - g1 x)) (by omega) (by omega), wrap_id (i := p y - p x) (by omega) (by omega)]
  unfold lexT
  by_cases c : p x = p y
  · rw [if_pos c]
    by_cases d : g0 x - g1 x = g0 y - g1 y
    · rw [if_pos d]
      by_cases f : g0 x = g0 y
      · rw [if_pos f]; omega
      · rw [if_neg f]; omega
    · rw [if_neg d]; omega
  · rw [if_neg c]; omega
theorem own_eq (ps : List Int) (h : ps.length ≤ 1000) : spec_l1Own.f ps = some ps := by
  unfold spec_l1Own.f
  simp only [Option.bind_some, List.nil_append, List.length_nil, Nat.zero_add]
  rw [if_pos (by omega)]
theorem ahead_eq {m : Nat} {pts : List Int} {gs : List (List Int)} {p g0 g1 : Int → Int} (T : Tab m pts gs p g0 g1) (x y : Int) (x0 : 0 ≤ x) (x1 : x < (m : Int)) (y0 : 0 ≤ y) (y1 : y < (m : Int)) : ∃ c : Bool, spec_lgAhead.f pts gs x y = some c ∧ (c = true ↔ lexA p g0 g1 x y) := by
  have m8 := T.m8
  have q3 := T.b0 x x0 x1
  have q4 := T.b0 y y0 y1
  have q5 := T.b1 x x0 x1
  have q6 := T.b1 y y0 y1
  have lp := T.lp
  have lg := T.lg
  have e1 : ∀ u v : Int, rd [u, v] 0 = u := fun _ _ => rfl
  have e2 : ∀ u v : Int, rd [u, v] 1 = v := fun _ _ => rfl
  have n0 : ∀ u v : Int, (0 : Int) < (([u, v] : List Int).length : Int) := fun _ _ => by simp
  have n1 : ∀ u v : Int, (1 : Int) < (([u, v] : List Int).length : Int) := fun _ _ => by simp
  unfold spec_lgAhead.f
  rw [T.hp x x0 x1, T.hp y y0 y1, T.hg x x0 x1, T.hg y y0 y1, e1, e1, e2, e2, if_pos x0, if_pos (by omega), if_pos (n0 _ _), if_pos (n1 _ _), if_pos y0, if_pos (by omega), if_pos (n0 _ _), if_pos (n1 _ _), if_pos (by omega), if_pos (by omega), wrap_id (i := g0 x - g1 x) (by omega) (by omega), wrap_id (i := g0 y - g1 y) (by omega) (by omega)]
  unfold lexA
  by_cases c : p x = p y
  · rw [if_pos c]
    by_cases d : g0 x - g1 x = g0 y - g1 y
    · rw [if_pos d]
      exact ⟨_, rfl, by rw [decide_eq_true_eq]; omega⟩
    · rw [if_neg d]
      exact ⟨_, rfl, by rw [decide_eq_true_eq]; omega⟩
  · rw [if_neg c]
    exact ⟨_, rfl, by rw [decide_eq_true_eq]; omega⟩
structure SpecOk (p g0 g1 : Int → Int) (t : Nat) (out : List Int) : Prop where
  pw : out.Pairwise (lexT p g0 g1)
  pm : out.Perm (upT t)
theorem mem_upT {t : Nat} {x : Int} : x ∈ upT t ↔ 0 ≤ x ∧ x < (t : Int) := by
  unfold upT
  rw [List.mem_map]
  constructor
  · rintro ⟨i, hi, rfl⟩
    have := List.mem_range.1 hi
    omega
  · rintro ⟨h0, h1⟩
    exact ⟨x.toNat, List.mem_range.2 (by omega), by omega⟩
theorem specT_l1 {m : Nat} {pts : List Int} {gs : List (List Int)} {p g0 g1 : Int → Int} (T : Tab m pts gs p g0 g1) (a b : Int) (L : List S68) (t : Nat) (ht : t < m) (out : List Int) (ho : out.Perm (upT t)) (d : Nat) : ∀ i : Nat, i + d = out.length → (∀ j (h : j < out.length), j < i → ¬ lexA p g0 g1 (t : Int) out[j]) →
    ∃ e : Nat, e ≤ out.length ∧ (∀ j (h : j < out.length), j < e → ¬ lexA p g0 g1 (t : Int) out[j]) ∧ (∀ h : e < out.length, lexA p g0 g1 (t : Int) out[e]) ∧
      ∀ res, Ev (fun k => spec_lgTable.l0 k pts gs (out.take e ++ [(t : Int)] ++ out.drop e) ((t + 1 : Nat) : Int) a b L) res → Ev (fun k => spec_lgTable.l1 k pts gs out (t : Int) (i : Int) a b L) res := by
  have m8 := T.m8
  have hlen : out.length = t := by rw [ho.length_eq, upT_length]
  induction d with
  | zero =>
    intro i hi hn
    refine ⟨i, by omega, hn, fun h => by omega, fun res hk => ?_⟩
    refine Ev.step (fun k => ?_) hk
    simp only [spec_lgTable.l1]
    rw [if_neg (by omega), if_pos (by omega), if_pos (by omega), Int.toNat_natCast, own_eq _ (by rw [List.length_take]; omega), Option.bind_some, if_pos (by rw [List.length_take]; omega), Option.bind_some, Option.bind_some, if_pos (by simp only [List.length_append, List.length_take, List.length_drop, List.length_singleton]; omega), wrap_id (by omega) (by omega)]
    rfl
  | succ d ih =>
    intro i hi hn
    have hlt : i < out.length := by omega
    have hr := rd_nat out i hlt
    have hm : out[i] ∈ upT t := ho.mem_iff.1 (List.getElem_mem hlt)
    obtain ⟨y0, y1⟩ := mem_upT.1 hm
    obtain ⟨c, hc, hcl⟩ := ahead_eq T (t : Int) out[i] (by omega) (by omega) y0 (by omega)
    cases c with
    | true =>
      refine ⟨i, by omega, hn, fun _ => hcl.1 rfl, fun res hk => ?_⟩
      refine Ev.step (fun k => ?_) hk
      simp only [spec_lgTable.l1]
      rw [if_pos (by omega), if_pos (by omega), hr, hc, Option.bind_some, if_pos rfl, if_pos (by omega), Int.toNat_natCast, own_eq _ (by rw [List.length_take]; omega), Option.bind_some, if_pos (by rw [List.length_take]; omega), Option.bind_some, Option.bind_some, if_pos (by simp only [List.length_append, List.length_take, List.length_drop, List.length_singleton]; omega), wrap_id (by omega) (by omega)]
      rfl
    | false =>
      obtain ⟨e, he, h1, h2, h3⟩ := ih (i + 1) (by omega) (fun j h hj => by
        by_cases e : j = i
        · subst e
          exact fun q => by have := hcl.2 q; simp at this
        · exact hn j h (by omega))
      refine ⟨e, he, h1, h2, fun res hk => Ev.step (fun k => ?_) (h3 res hk)⟩
      simp only [spec_lgTable.l1]
      rw [if_pos (by omega), if_pos (by omega), hr, hc, Option.bind_some, if_neg (by simp), wrap_id (by omega) (by omega)]
      rfl
theorem specT_ins {p g0 g1 : Int → Int} {t : Nat} {out : List Int} (h : SpecOk p g0 g1 t out) (e : Nat) (he : e ≤ out.length) (h1 : ∀ j (h : j < out.length), j < e → ¬ lexA p g0 g1 (t : Int) out[j]) (h2 : ∀ h : e < out.length, lexA p g0 g1 (t : Int) out[e]) :
    SpecOk p g0 g1 (t + 1) (out.take e ++ [(t : Int)] ++ out.drop e) := by
  have hmem : ∀ x ∈ out, 0 ≤ x ∧ x < (t : Int) := fun x hx => mem_upT.1 (h.pm.mem_iff.1 hx)
  have hpw : (out.take e ++ out.drop e).Pairwise (lexT p g0 g1) := by rw [List.take_append_drop]; exact h.pw
  obtain ⟨w1, w2, w3⟩ := List.pairwise_append.1 hpw
  have l1 : ∀ x ∈ out.take e, lexT p g0 g1 x (t : Int) := by
    intro x hx
    obtain ⟨j, hj, rfl⟩ := List.mem_iff_getElem.1 hx
    rw [List.length_take] at hj
    rw [List.getElem_take]
    exact lexT_of_notA (h1 j (by omega) (by omega)) (hmem _ (List.getElem_mem _)).2
  have l2 : ∀ x ∈ out.drop e, lexT p g0 g1 (t : Int) x := by
    intro x hx
    by_cases hlt : e < out.length
    · have ha := lexT_of_A (h2 hlt)
      rw [List.drop_eq_getElem_cons hlt] at hx w2
      rcases List.mem_cons.1 hx with rfl | hx
      · exact ha
      · exact lexT_trans ha ((List.pairwise_cons.1 w2).1 x hx)
    · rw [List.drop_of_length_le (by omega)] at hx
      simp at hx
  refine ⟨?_, ?_⟩
  · rw [List.append_assoc, List.pairwise_append]
    refine ⟨w1, ?_, ?_⟩
    · rw [List.singleton_append, List.pairwise_cons]
      exact ⟨l2, w2⟩
    · intro x hx y hy
      rw [List.singleton_append] at hy
      rcases List.mem_cons.1 hy with rfl | hy
      · exact l1 x hx
      · exact w3 x hx y hy
  · rw [List.append_assoc, List.singleton_append, upT_succ]
    refine List.perm_middle.trans ?_
    rw [List.take_append_drop]
    exact (h.pm.cons _).trans (List.perm_append_comm (l₁ := [(t : Int)]) (l₂ := upT t))
theorem specT_l0 {m : Nat} {pts : List Int} {gs : List (List Int)} {p g0 g1 : Int → Int} (T : Tab m pts gs p g0 g1) (b : Int) (L : List S68) (d : Nat) : ∀ (t : Nat) (out : List Int), t + d = m → SpecOk p g0 g1 t out →
    ∃ res, SpecOk p g0 g1 m res ∧ Ev (fun k => spec_lgTable.l0 k pts gs out (t : Int) (m : Int) b L) res := by
  induction d with
  | zero =>
    intro t out ht h
    obtain rfl : t = m := by omega
    refine ⟨out, h, ev_some fun k => ?_⟩
    simp only [spec_lgTable.l0]
    rw [if_neg (by omega)]
  | succ d ih =>
    intro t out ht h
    obtain ⟨e, he, h1, h2, h3⟩ := specT_l1 T (m : Int) b L t (by omega) out h.pm out.length 0 (by omega) (fun j _ hj => by omega)
    obtain ⟨res, hres, hev⟩ := ih (t + 1) _ (by omega) (specT_ins h e he h1 h2)
    refine ⟨res, hres, Ev.step (fun k => ?_) (h3 res hev)⟩
    simp only [spec_lgTable.l0]
    rw [if_pos (by omega)]
    rfl
theorem sorted_impl {N : Nat} {pts : List Int} {gs : List (List Int)} {p g0 g1 : Int → Int} (T : Tab (N + 1) pts gs p g0 g1) (res : List Int) (hr : SpecOk p g0 g1 (N + 1) res) : outT N (sortT N pts gs) = res := by
  have hlt : ∀ x y : Fin (N + 1), ltOf (cfF N pts gs) x y = true ↔ lexT p g0 g1 (x.val : Int) (y.val : Int) := by
    intro x y
    unfold ltOf cfF
    rw [decide_eq_true_eq]
    have := x.isLt
    have := y.isLt
    exact cmpT_neg T _ _ (by omega) (by omega) (by omega) (by omega)
  have hlf : ∀ x y : Fin (N + 1), ltOf (cfF N pts gs) x y = false ↔ ¬ lexT p g0 g1 (x.val : Int) (y.val : Int) := by
    intro x y
    rw [← hlt x y, Bool.not_eq_true]
  have hS : Go.Sort.SWO (ltOf (cfF N pts gs)) := by
    refine ⟨fun x => (hlf x x).2 (lexT_irrefl _), fun x y z h k => (hlt x z).2 (lexT_trans ((hlt x y).1 h) ((hlt y z).1 k)), fun x y z h k => (hlf x z).2 fun q => ?_⟩
    have h' := (hlf x y).1 h
    have k' := (hlf y z).1 k
    by_cases e : (x.val : Int) = (y.val : Int)
    · rw [e] at q; exact k' q
    · rcases lexT_total (p := p) (g0 := g0) (g1 := g1) e with c | c
      · exact h' c
      · by_cases f : (y.val : Int) = (z.val : Int)
        · rw [← f] at q; exact h' q
        · rcases lexT_total (p := p) (g0 := g0) (g1 := g1) f with c2 | c2
          · exact k' c2
          · exact lexT_asymm (lexT_trans c2 c) q
  have hsz := size_sortT N pts gs
  obtain ⟨⟨_, _, hperm⟩, hso⟩ := Go.Sort.insertionSort_holds hS (rowT N) 0 (rowT N).size (Nat.zero_le _) (Nat.le_refl _)
  have hs2 : (sortT N pts gs).size = (rowT N).size := by rw [hsz, size_rowT]
  have e1 : (sortT N pts gs).extract 0 (rowT N).size = sortT N pts gs := by rw [← hs2]; exact Array.extract_size
  have hperm' : (sortT N pts gs).toList.Perm (rowT N).toList := by
    have h := hperm
    rw [Array.extract_size] at h
    rw [← e1]
    exact h
  have hrow : outT N (rowT N) = upT (N + 1) := by
    apply List.ext_getElem?
    intro i
    by_cases hi : i < N + 1
    · rw [outT_get _ _ _ (by rw [size_rowT]; exact hi), upT_get _ _ hi, getElem!_pos (rowT N) i (by rw [size_rowT]; exact hi), rowT_get N i (by rw [size_rowT]; exact hi)]
    · rw [List.getElem?_eq_none (by rw [outT_length, size_rowT]; omega), List.getElem?_eq_none (by rw [upT_length]; omega)]
  have hpm : (outT N (sortT N pts gs)).Perm (upT (N + 1)) := by
    rw [← hrow]
    exact hperm'.map _
  refine List.Perm.eq_of_pairwise (le := fun x y => ¬ lexT p g0 g1 y x) ?_ ?_ ?_ (hpm.trans hr.pm.symm)
  · intro x y _ _ h1 h2
    by_cases e : x = y
    · exact e
    · rcases lexT_total (p := p) (g0 := g0) (g1 := g1) e with c | c
      · exact absurd c h2
      · exact absurd c h1
  · rw [List.pairwise_iff_getElem]
    intro i j hi hj hij
    have hi' : i < (sortT N pts gs).size := by rw [outT_length] at hi; exact hi
    have hj' : j < (sortT N pts gs).size := by rw [outT_length] at hj; exact hj
    have h := hso i j (Nat.zero_le _) hij (by rw [← hs2]; exact hj')
    have gi := outT_get N (sortT N pts gs) i hi'
    have gj := outT_get N (sortT N pts gs) j hj'
    rw [List.getElem?_eq_getElem hi] at gi
    rw [List.getElem?_eq_getElem hj] at gj
    rw [Option.some.inj gi, Option.some.inj gj]
    exact (hlf _ _).1 h
  · exact hr.pw.imp fun h => lexT_asymm h
theorem tab_of {a b : Int} {L : List S68} (g : Good a b L) : Tab a.toNat (ptsOf a b L) (rows a.toNat L) (fun i => rd (ptsOf a b L) i) (fun i => sA i L) (fun i => sB i L) := by
  have ha := g.ha
  have h56 := g.hl
  have hf : Few L := Few.of g (P := L) (Q := []) (by simp)
  have hpl := ptsOf_len a b L (by omega)
  have hup := allP_upto g L (List.replicate a.toNat 0) 0 (fun r hr => hr) (by rw [List.length_replicate]; omega) (Upto.zeros a.toNat)
  refine ⟨by omega, by omega, rows_len _ _, fun _ _ _ => rfl, fun i h0 h1 => rows_rd _ _ i h0 h1, fun i h0 h1 => ?_, fun i h0 h1 => ?_, fun i h0 h1 => ?_⟩
  · have := hup i h0 (by show i < ((ptsOf a b L).length : Int); omega)
    show 0 ≤ rd (ptsOf a b L) i ∧ rd (ptsOf a b L) i ≤ 10000
    unfold ptsOf
    omega
  · have := sA_le i L hf
    show 0 ≤ sA i L ∧ sA i L ≤ 10000
    omega
  · have := sB_le i L hf
    show 0 ≤ sB i L ∧ sB i L ≤ 10000
    omega
theorem table_both {a b : Int} {L : List S68} (g : Good a b L) (hg : goodB a b L = true) : ∃ res : List Int, res.length ≤ 8 ∧ Ev (fun k => spec_lgTable.f k a b L) res ∧ Ev (fun k => impl_LeagueTable.f k a b L) (res, true) ∧ res.Perm (upT a.toNat) := by
  have ha := g.ha
  have h56 := g.hl
  have T := tab_of g
  have hempty : SpecOk (fun i => rd (ptsOf a b L) i) (fun i => sA i L) (fun i => sB i L) 0 [] := ⟨List.Pairwise.nil, List.Perm.refl _⟩
  obtain ⟨res, hres, hev⟩ := specT_l0 T b L a.toNat 0 [] (by omega) hempty
  have hlen : res.length = a.toNat := by rw [hres.pm.length_eq, upT_length]
  refine ⟨res, by omega, ?_, ?_, hres.pm⟩
  · unfold spec_lgTable.f
    refine Ev.bind (specPts_ev a b L g) ?_
    refine Ev.bind (specGoals_ev a b L g) ?_
    rw [Int.toNat_of_nonneg (by omega)] at hev
    exact hev
  · unfold impl_LeagueTable.f
    obtain ⟨N, hN⟩ : ∃ N, a.toNat = N + 1 := ⟨a.toNat - 1, by omega⟩
    have h1 := implGoals_l1 a.toNat a b L g (by omega) L [] rfl
    have h0 := implGoals_l0 a b L a.toNat (by omega) (by omega) _ (by simpa using h1) a.toNat 0 (by omega)
    have hgo : Ev (fun k => impl_GoalsOfTeams.f k a b L) (rows a.toNat L, true) := by
      unfold impl_GoalsOfTeams.f
      refine Ev.bind (isLeague_ev a b _ (by omega)) ?_
      simp only [hg, if_true]
      refine Ev.congr (fun k => ?_) h0
      rw [if_pos (by omega), if_pos (by omega)]
      simp
    refine Ev.bind hgo ?_
    simp only [if_true]
    refine Ev.bind (implPts_ev a b _ g) ?_
    have hok : (decide (1 ≤ a) && okLT (a.toNat - 1) (ptsOf a b L) (rows a.toNat L)) = true := by
      have hpl := ptsOf_len a b L (by omega)
      rw [decide_eq_true (show 1 ≤ a by omega), Bool.true_and]
      unfold okLT
      rw [decide_eq_true (show a.toNat - 1 < 8 by omega), decide_eq_true (show (ptsOf a b L).length = a.toNat - 1 + 1 by omega), decide_eq_true (show (rows a.toNat L).length = a.toNat - 1 + 1 by rw [rows_len]; omega), Bool.true_and, Bool.true_and, Bool.true_and]
      refine List.all_eq_true.2 fun x hx => decide_eq_true ?_
      unfold rows at hx
      obtain ⟨t, _, rfl⟩ := List.mem_map.1 hx
      rfl
    simp only [hok, if_true]
    have hso : outT (a.toNat - 1) (sortT (a.toNat - 1) (ptsOf a b L) (rows a.toNat L)) = res := by
      rw [show a.toNat - 1 = N by omega]
      rw [hN] at T hres
      rw [hN]
      exact sorted_impl T res hres
    rw [hso]
    exact Ev.now _

end Go.Proofs.Ytmijfimjlenmpaa.Pure
