/- What the printed functions of FnExactKindsText compute answers true, at every argument of its types. No condition beside the types' own bounds. -/
import Derived.Test.YtmijfimjlenmpaaDoorGItoa
import Derived.Test.YtmijfimjlenmpaaDoorQFnExactKindsTextx
namespace Go.Proofs.YtmijfimjlenmpaaDoor.Pure
open Go.RowKit Go.Proofs.YtmijfimjlenmpaaDoor.QFnExactKindsText Go.Proofs.YtmijfimjlenmpaaDoorW.PrintWords Go.Proofs.YtmijfimjlenmpaaDoorW.PrintLast Go.Proofs.YtmijfimjlenmpaaDoorW.PrintMore
set_option linter.unusedVariables false
set_option linter.unusedSimpArgs false
set_option linter.unusedSectionVars false

theorem ev_some {α : Type} {g : Nat → Option α} {r : α} (h : ∀ k, g (k + 1) = some r) : Ev g r := Ev.step h (Ev.now r)
theorem ev_const {α : Type} {g : Nat → Option α} {r : α} (h : ∀ k, g k = some r) : Ev g r := ⟨0, fun k _ => h k⟩
theorem wrap_id {i : Int} (h0 : -9223372036854775808 ≤ i) (h1 : i ≤ 9223372036854775807) : wrap64 i = i := by unfold wrap64; omega

/-! lists of numbers: the law's own copies and comparisons -/
theorem rdI (l : List Int) (n : Nat) (h : n < l.length) : rd l (n : Int) = l[n] := by
  unfold rd
  simp [List.getD_eq_getElem?_getD, List.getElem?_eq_getElem h]
theorem toIntS_l0 (l : List Int) (hl : l.length ≤ 1048576) (d : Nat) : ∀ (i : Nat) (x : List Int), i + d = l.length → x.length = l.length → (∀ j, j < i → x[j]? = l[j]?) → Ev (fun k => laws_toIntS.l0 k l x (i : Int)) l := by
  induction d with
  | zero =>
    intro i x hi hx hp
    refine ev_some fun k => ?_
    simp only [laws_toIntS.l0]
    rw [if_neg (by omega)]
    congr 1
    apply List.ext_getElem?
    intro j
    by_cases hj : j < i
    · exact hp j hj
    · rw [List.getElem?_eq_none (by omega), List.getElem?_eq_none (by omega)]
  | succ d ih =>
    intro i x hi hx hp
    have hlt : i < l.length := by omega
    refine Ev.step (f := fun k => laws_toIntS.l0 k l (x.set i l[i]) ((i + 1 : Nat) : Int)) (fun k => ?_) (ih (i + 1) (x.set i l[i]) (by omega) (by rw [List.length_set]; exact hx) ?_)
    · simp only [laws_toIntS.l0]
      rw [if_pos (by omega), if_pos (by omega), rdI l i hlt, if_pos (by omega), wrap_id (by omega) (by omega), Int.toNat_natCast]
      rfl
    · intro j hj
      by_cases e : j = i
      · subst e
        rw [List.getElem?_set_self (by omega), List.getElem?_eq_getElem hlt]
      · rw [List.getElem?_set_ne (by omega)]
        exact hp j (by omega)
theorem toIntS_ev (l : List Int) (hl : l.length ≤ 1048576) : Ev (fun k => laws_toIntS.f k l) l := by
  have := toIntS_l0 l hl l.length 0 (List.replicate l.length 0) (by omega) (by simp) (fun j hj => by omega)
  unfold laws_toIntS.f
  have e1 : (0 : Int) ≤ (l.length : Int) := by omega
  have e2 : l.length ≤ 35184372088832 := by omega
  simp only [if_pos e1, Int.toNat_natCast, if_pos e2]
  simpa using this
theorem eqIntS_l0 (l : List Int) (hl : l.length ≤ 1048576) (d : Nat) : ∀ i : Nat, i + d = l.length → Ev (fun k => laws_eqIntS.l0 k l l (i : Int)) true := by
  induction d with
  | zero =>
    intro i hi
    refine ev_some fun k => ?_
    simp only [laws_eqIntS.l0]
    rw [if_neg (by omega)]
  | succ d ih =>
    intro i hi
    refine Ev.step (f := fun k => laws_eqIntS.l0 k l l ((i + 1 : Nat) : Int)) (fun k => ?_) (ih (i + 1) (by omega))
    simp only [laws_eqIntS.l0]
    rw [if_pos (by omega), if_pos (by omega), if_pos (by omega)]
    simp only [if_true]
    rw [wrap_id (by omega) (by omega)]
    rfl
theorem eqIntS_ev (l : List Int) (hl : l.length ≤ 1048576) : Ev (fun k => laws_eqIntS.f k l l) true := by
  have := eqIntS_l0 l hl l.length 0 (by omega)
  simpa [laws_eqIntS.f] using this

/-- A number below a hundred in decimal: the reference's own way and the library's. -/
theorem num_all : ∀ n : Nat, n < 100 → spec_l1Num.f 3 (n : Int) = some ⟨(Lib.decDigits n).toArray⟩ := by decide +kernel
theorem num_ev (z : Int) (h0 : 0 ≤ z) (h1 : z < 100) : Ev (fun k => spec_l1Num.f k z) ⟨(Lib.decDigits z.toNat).toArray⟩ := by
  have e : ((z.toNat : Nat) : Int) = z := Int.toNat_of_nonneg h0
  have := num_all z.toNat (by omega)
  rw [e] at this
  exact Ev.of (fun k => spec_l1Num.mono z k) this
theorem num_size (n : Nat) (h : n < 100) : (⟨(Lib.decDigits n).toArray⟩ : ByteArray).size ≤ 2 := by
  revert n
  decide +kernel
theorem itoa_eq (z : Int) (h0 : 0 ≤ z) (h1 : z < 100) : strconv_Itoa.f z = some ⟨(Lib.decDigits z.toNat).toArray⟩ := by
  unfold strconv_Itoa.f
  rw [if_pos ⟨h0, h1⟩]

/-! the kinds' text -/
def kNum (z : Int) : ByteArray := ⟨(Lib.decDigits z.toNat).toArray⟩
def kTxt (xs : List Int) : ByteArray := ⟨(Lib.join (xs.map fun z => Lib.decDigits z.toNat) [45]).toArray⟩
theorem kJoin_snoc (y : List UInt8) (s : List UInt8) (xs : List (List UInt8)) (h : xs ≠ []) : Lib.join (xs ++ [y]) s = Lib.join xs s ++ s ++ y := by
  cases xs with
  | nil => exact absurd rfl h
  | cons x xs =>
    rw [List.cons_append, Lib.join_cons, Lib.join_cons]
    simp [Lib.joinTail]
theorem kTxt_snoc (xs : List Int) (z : Int) (h : xs ≠ []) : kTxt (xs ++ [z]) = (kTxt xs ++ (⟨#[45]⟩ : ByteArray)) ++ kNum z := by
  unfold kTxt kNum
  rw [List.map_append, List.map_singleton, kJoin_snoc _ _ _ (by simpa using h)]
  apply ByteArray.ext
  simp
theorem kTxt_one (z : Int) : kTxt [z] = kNum z := by
  unfold kTxt kNum
  rw [List.map_singleton, Lib.join_one]
/-- Both sides look through the kinds in turn. -/
theorem l1In_eq (a b c : Int) : spec_l1In.f a b c = some (decide (b ≤ a ∧ a ≤ c)) := by
  unfold spec_l1In.f
  by_cases h : a ≥ b
  · rw [if_pos h]; congr 1; exact decide_eq_decide.2 (by omega)
  · rw [if_neg h]; congr 1; symm; exact decide_eq_false (by omega)
theorem within_eq (a b c : Int) : impl_within.f a b c = some (decide (b ≤ a ∧ a ≤ c)) := by
  unfold impl_within.f
  by_cases h : b ≤ a
  · rw [if_pos h]; congr 1; exact decide_eq_decide.2 (by omega)
  · rw [if_neg h]; congr 1; symm; exact decide_eq_false (by omega)
theorem kinds_l0 (l : List Int) (hl : l.length ≤ 5) (d : Nat) : ∀ i : Nat, i + d = l.length → ∃ b : Bool,
    Ev (fun k => spec_l1Rising.l0 k l 1 20 l (l.length : Int) (i : Int)) b ∧ Ev (fun k => impl_AreKinds.l0 k l l (l.length : Int) (i : Int)) b ∧
    (b = true → ∀ j, i ≤ j → (h : j < l.length) → 1 ≤ l[j] ∧ l[j] ≤ 20) := by
  induction d with
  | zero =>
    intro i hi
    refine ⟨true, ev_some fun k => ?_, ev_some fun k => ?_, fun _ j h1 h2 => by omega⟩
    · simp only [spec_l1Rising.l0]
      rw [if_neg (by omega)]
    · simp only [impl_AreKinds.l0]
      rw [if_neg (by omega)]
  | succ d ih =>
    intro i hi
    have hlt : i < l.length := by omega
    obtain ⟨b, hs, hm, hb⟩ := ih (i + 1) (by omega)
    have hr := rdI l i hlt
    have hwi : wrap64 ((i : Int) + 1) = ((i + 1 : Nat) : Int) := by rw [wrap_id (by omega) (by omega)]; omega
    by_cases hin : 1 ≤ l[i] ∧ l[i] ≤ 20
    · have hd : decide (1 ≤ l[i] ∧ l[i] ≤ 20) = true := decide_eq_true hin
      by_cases h0 : i = 0
      · subst h0
        refine ⟨b, Ev.step (fun k => ?_) hs, Ev.step (fun k => ?_) hm, fun ht j h1 h2 => ?_⟩
        · simp only [spec_l1Rising.l0]
          rw [if_pos (by omega), if_pos (by omega), if_pos (by omega), hr, l1In_eq, hd]
          simp only [Option.bind_some, if_true]
          rw [if_neg (by omega), hwi]
        · simp only [impl_AreKinds.l0]
          rw [if_pos (by omega), if_pos (by omega), if_pos (by omega), hr, within_eq, hd]
          simp only [Option.bind_some, if_true]
          rw [if_neg (by omega), hwi]
        · by_cases e : j = 0
          · subst e; exact hin
          · exact hb ht j (by omega) h2
      · have hwp : wrap64 ((i : Int) - 1) = ((i - 1 : Nat) : Int) := by rw [wrap_id (by omega) (by omega)]; omega
        have hrp := rdI l (i - 1) (by omega)
        by_cases hle : l[i] ≤ l[i - 1]
        · refine ⟨false, ev_some fun k => ?_, ev_some fun k => ?_, fun ht => by cases ht⟩
          · simp only [spec_l1Rising.l0]
            rw [if_pos (by omega), if_pos (by omega), if_pos (by omega), hr, l1In_eq, hd]
            simp only [Option.bind_some, if_true]
            rw [if_pos (by omega), hwp, if_pos (by omega), if_pos (by omega), hrp, if_pos hle]
          · simp only [impl_AreKinds.l0]
            rw [if_pos (by omega), if_pos (by omega), if_pos (by omega), hr, within_eq, hd]
            simp only [Option.bind_some, if_true]
            rw [if_pos (by omega), hwp, if_pos (by omega), if_pos (by omega), hrp, if_pos hle]
        · refine ⟨b, Ev.step (fun k => ?_) hs, Ev.step (fun k => ?_) hm, fun ht j h1 h2 => ?_⟩
          · simp only [spec_l1Rising.l0]
            rw [if_pos (by omega), if_pos (by omega), if_pos (by omega), hr, l1In_eq, hd]
            simp only [Option.bind_some, if_true]
            rw [if_pos (by omega), hwp, if_pos (by omega), if_pos (by omega), hrp, if_neg hle, hwi]
          · simp only [impl_AreKinds.l0]
            rw [if_pos (by omega), if_pos (by omega), if_pos (by omega), hr, within_eq, hd]
            simp only [Option.bind_some, if_true]
            rw [if_pos (by omega), hwp, if_pos (by omega), if_pos (by omega), hrp, if_neg hle, hwi]
          · by_cases e : j = i
            · subst e; exact hin
            · exact hb ht j (by omega) h2
    · have hd : decide (1 ≤ l[i] ∧ l[i] ≤ 20) = false := decide_eq_false hin
      refine ⟨false, ev_some fun k => ?_, ev_some fun k => ?_, fun ht => by cases ht⟩
      · simp only [spec_l1Rising.l0]
        rw [if_pos (by omega), if_pos (by omega), if_pos (by omega), hr, l1In_eq, hd]
        simp
      · simp only [impl_AreKinds.l0]
        rw [if_pos (by omega), if_pos (by omega), if_pos (by omega), hr, within_eq, hd]
        simp
theorem take_snoc (l : List Int) (i : Nat) (h : i < l.length) : l.take i ++ [l[i]] = l.take (i + 1) := by
  rw [List.take_add_one, List.getElem?_eq_getElem h]
  rfl
theorem kNum_size (z : Int) (h0 : 1 ≤ z) (h1 : z ≤ 20) : (kNum z).size ≤ 2 := num_size z.toNat (by omega)
theorem bsize (a b : ByteArray) : (a ++ b).size = a.size + b.size := by simp
theorem goText_l0 (l : List Int) (hl : l.length ≤ 5) (hz : ∀ x ∈ l, 1 ≤ x ∧ x ≤ 20) (d : Nat) : ∀ i : Nat, i + d = l.length → i ≠ 0 → (kTxt (l.take i)).size ≤ 3 * i →
    Ev (fun k => spec_goText.l0 k (kTxt (l.take i)) l (l.length : Int) (i : Int)) (kTxt l) := by
  induction d with
  | zero =>
    intro i hi _ _
    refine ev_some fun k => ?_
    simp only [spec_goText.l0]
    rw [if_neg (by omega), List.take_of_length_le (by omega)]
  | succ d ih =>
    intro i hi h0 hs
    have hlt : i < l.length := by omega
    obtain ⟨z1, z2⟩ := hz l[i] (List.getElem_mem hlt)
    have hwi : wrap64 ((i : Int) + 1) = ((i + 1 : Nat) : Int) := by rw [wrap_id (by omega) (by omega)]; omega
    have et : kTxt (l.take (i + 1)) = (kTxt (l.take i) ++ (⟨#[45]⟩ : ByteArray)) ++ kNum l[i] := by
      rw [← take_snoc l i hlt]
      exact kTxt_snoc _ _ (by intro e; have := congrArg List.length e; rw [List.length_take, List.length_nil] at this; omega)
    have e45 : (⟨#[45]⟩ : ByteArray).size = 1 := rfl
    have hk := kNum_size l[i] z1 z2
    have hs2 : (kTxt (l.take (i + 1))).size ≤ 3 * (i + 1) := by rw [et, bsize, bsize, e45]; exact Nat.le_trans (Nat.add_le_add (Nat.add_le_add_right hs 1) hk) (by omega)
    have hi2 := ih (i + 1) (by omega) (by omega) hs2
    rw [et] at hi2
    refine Ev.step (f := fun k => (spec_l1Num.f k l[i]).bind fun t114 => if (kTxt (l.take i) ++ (⟨#[45]⟩ : ByteArray)).size + t114.size ≤ 9223372036854775807 then spec_goText.l0 k ((kTxt (l.take i) ++ (⟨#[45]⟩ : ByteArray)) ++ t114) l (l.length : Int) ((i + 1 : Nat) : Int) else none) (fun k => ?_) ?_
    · simp only [spec_goText.l0]
      rw [if_pos (by omega), if_pos (by omega), if_pos (by omega), if_pos (by omega), if_pos (by omega), rdI l i hlt, hwi]
    · refine Ev.bind (num_ev l[i] (by omega) (by omega)) ?_
      have hc : (kTxt (l.take i) ++ (⟨#[45]⟩ : ByteArray)).size + (kNum l[i]).size ≤ 9223372036854775807 := by rw [bsize, e45]; omega
      simp only [kNum] at hc hi2 ⊢
      simp only [if_pos hc]
      exact hi2
theorem goText_ev (l : List Int) (h1 : 1 ≤ l.length) (hl : l.length ≤ 5) (hz : ∀ x ∈ l, 1 ≤ x ∧ x ≤ 20) : Ev (fun k => spec_goText.f k l) (kTxt l) := by
  unfold spec_goText.f
  obtain ⟨z1, z2⟩ := hz l[0] (List.getElem_mem (by omega))
  have et : kTxt (l.take (0 + 1)) = kNum l[0] := by
    rw [← take_snoc l 0 (by omega)]
    simpa using kTxt_one l[0]
  have hk := kNum_size l[0] z1 z2
  have hi := goText_l0 l hl hz (l.length - 1) 1 (by omega) (by omega) (by rw [et]; omega)
  rw [et] at hi
  refine Ev.step (f := fun k => (spec_l1Num.f k l[0]).bind fun t115 => if (⟨#[]⟩ : ByteArray).size + t115.size ≤ 9223372036854775807 then spec_goText.l0 k ((⟨#[]⟩ : ByteArray) ++ t115) l (l.length : Int) 1 else none) (fun k => ?_) ?_
  · simp only [spec_goText.l0]
    have hr : rd l 0 = l[0] := rdI l 0 (by omega)
    rw [if_pos (by omega), if_pos (by omega), if_pos (by omega), if_neg (by omega), hr, wrap_id (by omega) (by omega)]
    rfl
  · refine Ev.bind (num_ev l[0] (by omega) (by omega)) ?_
    have e0 : (⟨#[]⟩ : ByteArray).size = 0 := rfl
    have hc : (⟨#[]⟩ : ByteArray).size + (kNum l[0]).size ≤ 9223372036854775807 := by rw [e0]; omega
    have ea : (⟨#[]⟩ : ByteArray) ++ kNum l[0] = kNum l[0] := by apply ByteArray.ext; simp
    simp only [kNum] at hc ea hi ⊢
    simp only [if_pos hc, ea]
    exact hi
theorem joinNumbers_l0 (l : List Int) (hl : l.length ≤ 5) (hz : ∀ x ∈ l, 1 ≤ x ∧ x ≤ 20) (hb : (kTxt l).size ≤ 100) (d : Nat) : ∀ i : Nat, i + d = l.length →
    Ev (fun k => impl_joinNumbers.l0 k ⟨#[45]⟩ ((l.take i).map kNum) l (l.length : Int) (i : Int)) (kTxt l) := by
  induction d with
  | zero =>
    intro i hi
    refine ev_some fun k => ?_
    simp only [impl_joinNumbers.l0]
    rw [if_neg (by omega), List.take_of_length_le (by omega)]
    have em : (l.map kNum).map (·.data.toList) = l.map fun z => Lib.decDigits z.toNat := by simp [kNum, List.map_map, Function.comp_def]
    have es : (Lib.join (l.map fun z => Lib.decDigits z.toNat) [45]).length = (kTxt l).size := by simp [kTxt, ByteArray.size]
    unfold strings_Join.f
    rw [em, if_pos ⟨by simp; omega, by simpa [es] using (by omega : (kTxt l).size ≤ 140737488355328)⟩]
    rfl
  | succ d ih =>
    intro i hi
    have hlt : i < l.length := by omega
    obtain ⟨z1, z2⟩ := hz l[i] (List.getElem_mem hlt)
    have hwi : wrap64 ((i : Int) + 1) = ((i + 1 : Nat) : Int) := by rw [wrap_id (by omega) (by omega)]; omega
    refine Ev.step (fun k => ?_) (ih (i + 1) (by omega))
    simp only [impl_joinNumbers.l0]
    rw [if_pos (by omega), if_pos (by omega), if_pos (by omega), rdI l i hlt, itoa_eq l[i] (by omega) (by omega), hwi]
    simp only [Option.bind_some]
    rw [if_pos (by simp; omega), ← take_snoc l i hlt, List.map_append, List.map_singleton]
    rfl
theorem kTxt_size (l : List Int) (hl : l.length ≤ 5) (hz : ∀ x ∈ l, 1 ≤ x ∧ x ≤ 20) : ∀ i : Nat, i ≤ l.length → (kTxt (l.take i)).size ≤ 3 * i := by
  intro i
  induction i with
  | zero => intro _; simp [kTxt, Lib.join_nil, ByteArray.size]
  | succ i ih =>
    intro hi
    have hlt : i < l.length := by omega
    obtain ⟨z1, z2⟩ := hz l[i] (List.getElem_mem hlt)
    have hk := kNum_size l[i] z1 z2
    have e45 : (⟨#[45]⟩ : ByteArray).size = 1 := rfl
    rw [← take_snoc l i hlt]
    by_cases h0 : i = 0
    · subst h0
      have e := kTxt_one l[0]
      simp only [List.take_zero, List.nil_append]
      rw [e]
      omega
    · rw [kTxt_snoc _ _ (by intro e; have := congrArg List.length e; rw [List.length_take, List.length_nil] at this; omega), bsize, bsize, e45]
      have := ih (by omega)
      exact Nat.le_trans (Nat.add_le_add (Nat.add_le_add_right this 1) hk) (by omega)

theorem FnExactKindsText : ∀ (l0 : List Int), (∀ x ∈ l0, (Lit.int .i64 x).wf = true) → l0.length ≤ 9223372036854775807 → ∃ k, laws_FnExactKindsText.f k l0 = some true := by
  intro l _ _
  refine Ev.rounds ?_
  unfold laws_FnExactKindsText.f
  by_cases h : (l.length : Int) > 1048576
  · simp only [if_pos h]
    exact Ev.now _
  · simp only [if_neg h]
    have hl : l.length ≤ 1048576 := by omega
    refine Ev.bind (toIntS_ev l hl) ?_
    have both : ∃ v : ByteArray × Bool, Ev (fun k => spec_KindsText.f k l) v ∧ Ev (fun k => impl_KindsText.f k l) v := by
      unfold spec_KindsText.f impl_KindsText.f spec_goKinds.f impl_AreKinds.f spec_l1Rising.f
      rw [l1In_eq, within_eq]
      simp only [Option.bind_some]
      cases hc : decide (1 ≤ (l.length : Int) ∧ (l.length : Int) ≤ 5)
      · simp only [Bool.false_eq_true, if_false, Option.bind_some]
        exact ⟨_, Ev.now _, Ev.now _⟩
      · have hc2 := of_decide_eq_true hc
        simp only [if_true]
        obtain ⟨b, hs, hm, hb⟩ := kinds_l0 l (by omega) l.length 0 (by omega)
        have hs2 : Ev (fun k => (spec_l1Rising.l0 k l 1 20 l (l.length : Int) 0).bind fun t105 => some t105) b := Ev.bind (by simpa using hs) (Ev.now _)
        cases b
        · refine ⟨(⟨#[]⟩, false), Ev.bind hs2 ?_, Ev.bind (by simpa using hm) ?_⟩
          · simp only [Bool.false_eq_true, if_false]
            exact Ev.now _
          · simp only [Bool.false_eq_true, if_false]
            exact Ev.now _
        · have hz : ∀ x ∈ l, 1 ≤ x ∧ x ≤ 20 := by
            intro x hx
            obtain ⟨j, hj, rfl⟩ := List.getElem_of_mem hx
            exact hb rfl j (by omega) hj
          have hsz := kTxt_size l (by omega) hz l.length (by omega)
          rw [List.take_of_length_le (by omega)] at hsz
          refine ⟨(kTxt l, true), Ev.bind hs2 ?_, Ev.bind (by simpa using hm) ?_⟩
          · simp only [if_true]
            exact Ev.bind (goText_ev l (by omega) (by omega) hz) (Ev.now _)
          · simp only [if_true]
            refine Ev.bind ?_ (Ev.now _)
            have := joinNumbers_l0 l (by omega) hz (by omega) l.length 0 (by omega)
            simpa [impl_joinNumbers.f] using this
    obtain ⟨v, hv1, hv2⟩ := both
    refine Ev.bind hv1 ?_
    refine Ev.bind (toIntS_ev l hl) ?_
    refine Ev.bind hv2 ?_
    simp only [bne_self_eq_false, if_true]
    refine Ev.step (f := fun k => (laws_toIntS.f k l).bind fun t150 => ((laws_eqIntS.f k l t150).bind fun t153 => (if t153 = true then (some true) else (some false)))) (fun k => by simp [laws_FnExactKindsText.j0]) ?_
    refine Ev.bind (toIntS_ev l hl) ?_
    refine Ev.bind (eqIntS_ev l hl) ?_
    exact Ev.now _

end Go.Proofs.YtmijfimjlenmpaaDoor.Pure
