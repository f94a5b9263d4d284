/- Texts of kinds: told and read back, both sides alike. No condition beside the types' own bounds. -/
import Derived.Lib.Join
import Derived.Test.YthcbaogbncakdaaGreatDoorcGKA
import Derived.Test.YthcbaogbncakdaaGreatDoorcGItoa
import Derived.Test.YthcbaogbncakdaaGreatDoorcGNum
import Derived.Test.YthcbaogbncakdaaGreatDoorcGJoin
namespace Go.Proofs.YthcbaogbncakdaaGreatDoor.Pure
open Go.RowKit Go.Proofs.YthcbaogbncakdaaGreatDoor.QFnGoalsReached Go.Proofs.YthcbaogbncakdaaGreatDoorW.PrintWords Go.Proofs.YthcbaogbncakdaaGreatDoorW.PrintLast Go.Proofs.YthcbaogbncakdaaGreatDoorW.PrintMore
set_option linter.unusedVariables false
set_option linter.unusedSimpArgs false
set_option linter.unusedSectionVars false
theorem ev_uniq {α : Type} {g : Nat → Option α} {a b : α} (h1 : Ev g a) (h2 : Ev g b) : a = b := by
  obtain ⟨K1, h1⟩ := h1
  obtain ⟨K2, h2⟩ := h2
  have e1 := h1 (max K1 K2) (Nat.le_max_left _ _)
  have e2 := h2 (max K1 K2) (Nat.le_max_right _ _)
  exact Option.some.inj (e1.symm.trans e2)
def isD (c : UInt8) : Bool := decide (48 ≤ c.toNat ∧ c.toNat ≤ 57)
def valStep (a : Nat) (c : UInt8) : Nat := a * 10 + (c.toNat - 48)
def valF (acc : Nat) (l : List UInt8) : Nat := l.foldl valStep acc
theorem val_cons (acc : Nat) (c : UInt8) (r : List UInt8) : valF acc (c :: r) = valF (acc * 10 + (c.toNat - 48)) r := List.foldl_cons ..
theorem val_nil (acc : Nat) : valF acc [] = acc := List.foldl_nil ..
theorem val_one (c : UInt8) : valF 0 [c] = c.toNat - 48 := by rw [val_cons, val_nil, Nat.zero_mul, Nat.zero_add]
def canonOk (l : List UInt8) : Bool := decide (1 ≤ l.length ∧ l.length ≤ 6) && (!(decide (l.head? = some 48) && decide (1 < l.length)) && l.all isD)
def canon (l : List UInt8) : Int := if canonOk l = true then (valF 0 l : Int) else -1
theorem isD_iff {c : UInt8} : isD c = true ↔ 48 ≤ c.toNat ∧ c.toNat ≤ 57 := by unfold isD; exact decide_eq_true_iff
theorem val_snoc (l : List UInt8) (c : UInt8) (acc : Nat) : valF acc (l ++ [c]) = valF acc l * 10 + (c.toNat - 48) := by
  unfold valF
  rw [List.foldl_append, List.foldl_cons, List.foldl_nil]
  rfl
theorem pow_succ_le {p a b : Nat} (h : a ≤ b * 10) : a * p ≤ b * (p * 10) := by
  have := Nat.mul_le_mul_right p h
  rw [Nat.mul_assoc, Nat.mul_comm 10 p] at this
  exact this
theorem val_lt (l : List UInt8) : ∀ (acc : Nat), l.all isD = true → valF acc l + 1 ≤ (acc + 1) * 10 ^ l.length := by
  induction l with
  | nil =>
    intro acc _
    rw [List.length_nil, Nat.pow_zero, Nat.mul_one, val_nil]
    exact Nat.le_refl _
  | cons c r ih =>
    intro acc h
    rw [List.all_cons, Bool.and_eq_true] at h
    have hc := isD_iff.1 h.1
    have h1 : acc * 10 + (c.toNat - 48) + 1 ≤ (acc + 1) * 10 := by omega
    rw [val_cons, List.length_cons, Nat.pow_succ]
    exact Nat.le_trans (ih _ h.2) (pow_succ_le h1)
theorem val_ge (l : List UInt8) : ∀ acc : Nat, acc ≤ valF acc l := by
  induction l with
  | nil => intro acc; rw [val_nil]; exact Nat.le_refl _
  | cons c r ih =>
    intro acc
    have h1 : acc ≤ acc * 10 + (c.toNat - 48) := by omega
    rw [val_cons]
    exact Nat.le_trans h1 (ih _)
theorem pow_le6 {n : Nat} (h : n ≤ 6) : 10 ^ n ≤ 1000000 := Nat.pow_le_pow_right (by omega) h
theorem canonOk_parts {l : List UInt8} (h : canonOk l = true) : (1 ≤ l.length ∧ l.length ≤ 6) ∧ (l.head? = some 48 → l.length = 1) ∧ l.all isD = true := by
  unfold canonOk at h
  rw [Bool.and_eq_true, Bool.and_eq_true] at h
  obtain ⟨h1, h2, h3⟩ := h
  have h1' := of_decide_eq_true h1
  refine ⟨h1', fun e => ?_, h3⟩
  rw [decide_eq_true e, Bool.true_and] at h2
  have : ¬ 1 < l.length := by simpa using h2
  omega
theorem val_small {l : List UInt8} (h : canonOk l = true) : valF 0 l ≤ 999999 := by
  obtain ⟨h1, _, h3⟩ := canonOk_parts h
  have h2 := val_lt l 0 h3
  have := pow_le6 h1.2
  omega
theorem dig_back {c : UInt8} (h : isD c = true) : UInt8.ofNat (48 + (c.toNat - 48)) = c := by
  have := isD_iff.1 h
  rw [show 48 + (c.toNat - 48) = c.toNat by omega]
  exact UInt8.ofNat_toNat
theorem parse_ok (l : List UInt8) : ∀ (acc : Nat), l.all isD = true → (acc + 1) * 10 ^ l.length ≤ 1000000000000 → Lib.parseUint10 acc l = .ok (valF acc l) := by
  induction l with
  | nil => intro acc _ _; rw [val_nil]; rfl
  | cons c r ih =>
    intro acc h hb
    rw [List.all_cons, Bool.and_eq_true] at h
    have hc := isD_iff.1 h.1
    rw [List.length_cons, Nat.pow_succ] at hb
    have h1 : (acc * 10 + (c.toNat - 48) + 1) * 10 ^ r.length ≤ (acc + 1) * (10 ^ r.length * 10) := pow_succ_le (by omega)
    have h5 : acc * 10 + (c.toNat - 48) + 1 ≤ (acc * 10 + (c.toNat - 48) + 1) * 10 ^ r.length := Nat.le_mul_of_pos_right _ (Nat.pow_pos (by omega))
    have h6 : acc * 10 + (c.toNat - 48) + 1 ≤ 1000000000000 := Nat.le_trans h5 (Nat.le_trans h1 hb)
    simp only [Lib.parseUint10]
    rw [if_pos hc, if_neg (by omega), if_neg (by omega), val_cons]
    exact ih _ h.2 (Nat.le_trans h1 hb)
theorem atoi_canon {l : List UInt8} (h : canonOk l = true) : Lib.atoiAll l = .ok (valF 0 l : Int) := by
  obtain ⟨h1, _, h3⟩ := canonOk_parts h
  have hs := val_small h
  have hp : Lib.parseUint10 0 l = .ok (valF 0 l) := parse_ok l 0 h3 (by have := pow_le6 h1.2; omega)
  cases l with
  | nil => simp at h1
  | cons c r =>
    rw [List.all_cons, Bool.and_eq_true] at h3
    have hc := isD_iff.1 h3.1
    unfold Lib.atoiAll
    simp only
    rw [if_neg (by omega)]
    unfold Lib.parseMag
    rw [if_neg (by simp), hp]
    simp only
    rw [if_neg (by omega), if_neg (by omega), if_neg (by omega)]
theorem dec_val : ∀ (n : Nat) (l : List UInt8), l.length = n → l ≠ [] → l.all isD = true → (l.head? = some 48 → l.length = 1) → Lib.decDigits (valF 0 l) = l := by
  intro n
  induction n with
  | zero => intro l hl hne; exact absurd (List.length_eq_zero_iff.1 hl) hne
  | succ n ih =>
    intro l hl hne hd hz
    obtain ⟨p, c, rfl⟩ : ∃ p c, l = p ++ [c] := ⟨l.dropLast, l.getLast hne, (List.dropLast_concat_getLast hne).symm⟩
    rw [List.all_append, Bool.and_eq_true] at hd
    have hc1 : isD c = true := by simpa using hd.2
    have hc := isD_iff.1 hc1
    rw [val_snoc]
    cases p with
    | nil =>
      rw [List.nil_append, val_nil, Nat.zero_mul, Nat.zero_add, Lib.decDigits_one (by omega), dig_back hc1]
    | cons x xs =>
      have hx : x ≠ 48 := by
        rintro rfl
        have := hz rfl
        simp at this
      have hxd : isD x = true := by rw [List.all_cons, Bool.and_eq_true] at hd; exact hd.1.1
      have hxn := isD_iff.1 hxd
      have hx49 : 49 ≤ x.toNat := by
        rcases Nat.lt_or_ge 48 x.toNat with q | q
        · exact q
        · exact absurd (UInt8.toNat_inj.1 (by rw [show x.toNat = 48 by omega]; rfl)) hx
      have hv : 1 ≤ valF 0 (x :: xs) := by
        have := val_ge xs (0 * 10 + (x.toNat - 48))
        rw [val_cons]
        omega
      have hr := ih (x :: xs) (by simp at hl ⊢; omega) (by simp) hd.1 (fun e => by simp at e; exact absurd e hx)
      generalize valF 0 (x :: xs) = v at hv hr
      rw [Lib.decDigits, dif_neg (by omega), show (v * 10 + (c.toNat - 48)) / 10 = v by omega, show (v * 10 + (c.toNat - 48)) % 10 = c.toNat - 48 by omega, hr, dig_back hc1]
theorem dec_canon {l : List UInt8} (h : canonOk l = true) : Lib.decDigits (valF 0 l) = l := by
  obtain ⟨h1, h2, h3⟩ := canonOk_parts h
  exact dec_val l.length l rfl (by rintro rfl; simp at h1) h3 h2
theorem dig_of {d : Nat} (h : d < 10) : isD (UInt8.ofNat (48 + d)) = true ∧ (UInt8.ofNat (48 + d)).toNat - 48 = d ∧ (1 ≤ d → UInt8.ofNat (48 + d) ≠ 48) := by
  have e : (UInt8.ofNat (48 + d)).toNat = 48 + d := by rw [UInt8.toNat_ofNat']; omega
  refine ⟨isD_iff.2 (by omega), by omega, fun hd q => ?_⟩
  rw [q] at e
  have : (48 : UInt8).toNat = 48 := rfl
  omega
theorem dec_facts (n : Nat) : (Lib.decDigits n) ≠ [] ∧ (Lib.decDigits n).all isD = true ∧ valF 0 (Lib.decDigits n) = n ∧ (1 ≤ n → (Lib.decDigits n).head? ≠ some 48 ∧ 10 ^ ((Lib.decDigits n).length - 1) ≤ n) ∧ (n = 0 → (Lib.decDigits n).length = 1) := by
  induction n using Nat.strongRecOn with
  | ind n ih =>
    by_cases h : n < 10
    · obtain ⟨d1, d2, d3⟩ := dig_of h
      rw [Lib.decDigits_one h]
      refine ⟨by simp, by rw [List.all_cons, d1]; rfl, by rw [val_one]; exact d2, fun h1 => ⟨fun q => d3 h1 (by simpa using q), by simpa using h1⟩, fun _ => rfl⟩
    · obtain ⟨i1, i2, i3, i4, _⟩ := ih (n / 10) (by omega)
      obtain ⟨d1, d2, d3⟩ := dig_of (show n % 10 < 10 by omega)
      rw [Lib.decDigits, dif_neg h]
      obtain ⟨j1, j2⟩ := i4 (by omega)
      have hl : 1 ≤ (Lib.decDigits (n / 10)).length := by
        cases hh : Lib.decDigits (n / 10) with
        | nil => exact absurd hh i1
        | cons _ _ => simp
      refine ⟨by simp, by rw [List.all_append, i2, List.all_cons, d1]; rfl, by rw [val_snoc, i3, d2]; omega, fun _ => ⟨?_, ?_⟩, fun q => by omega⟩
      · cases hh : Lib.decDigits (n / 10) with
        | nil => exact absurd hh i1
        | cons x xs =>
          rw [hh] at j1
          simpa using j1
      · rw [List.length_append, List.length_singleton, Nat.add_sub_cancel]
        obtain ⟨m, hm⟩ : ∃ m, (Lib.decDigits (n / 10)).length = m + 1 := ⟨_, (Nat.sub_add_cancel hl).symm⟩
        rw [hm] at j2 ⊢
        rw [Nat.add_sub_cancel] at j2
        rw [Nat.pow_succ]
        omega
theorem canon_dec {n : Nat} (h : n ≤ 999999) : canonOk (Lib.decDigits n) = true ∧ valF 0 (Lib.decDigits n) = n := by
  obtain ⟨i1, i2, i3, i4, i5⟩ := dec_facts n
  refine ⟨?_, i3⟩
  have hl : 1 ≤ (Lib.decDigits n).length := by
    cases hh : Lib.decDigits n with
    | nil => exact absurd hh i1
    | cons _ _ => simp
  unfold canonOk
  rw [i2, Bool.and_true, Bool.and_eq_true]
  rcases Nat.eq_zero_or_pos n with h0 | h0
  · have := i5 h0
    exact ⟨decide_eq_true (by omega), by rw [decide_eq_false (p := 1 < _) (by omega), Bool.and_false]; rfl⟩
  · obtain ⟨j1, j2⟩ := i4 h0
    have h6 : (Lib.decDigits n).length ≤ 6 := by
      rcases Nat.lt_or_ge 6 (Lib.decDigits n).length with q | q
      · have := Nat.pow_le_pow_right (n := 10) (by omega) (show 6 ≤ (Lib.decDigits n).length - 1 by omega)
        omega
      · exact q
    exact ⟨decide_eq_true ⟨hl, h6⟩, by rw [decide_eq_false j1]; rfl⟩
theorem number_eq (s : ByteArray) (most : Int) (h0 : 0 ≤ most) (h1 : most ≤ 999999) : number.v s most = if 0 ≤ canon s.data.toList ∧ canon s.data.toList ≤ most then (canon s.data.toList, true) else (0, false) := by
  unfold canon
  by_cases c : canonOk s.data.toList = true
  · rw [if_pos c]
    have hs := val_small c
    unfold number.v
    rw [atoi_canon c]
    have hi : Lib.itoa ((valF 0 s.data.toList : Nat) : Int) = s.data.toList := by
      rw [show Lib.itoa ((valF 0 s.data.toList : Nat) : Int) = Lib.decDigits (valF 0 s.data.toList) by unfold Lib.itoa; rw [if_neg (by omega)]; simp]
      exact dec_canon c
    simp only [hi, true_and]
  · rw [if_neg c, if_neg (by omega)]
    unfold number.v
    split
    · rename_i v hv
      refine if_neg ?_
      rintro ⟨q1, q2, q3⟩
      apply c
      have e : Lib.itoa v = Lib.decDigits v.toNat := by unfold Lib.itoa; rw [if_neg (by omega)]
      rw [← q1, e]
      exact (canon_dec (by omega)).1
    · rfl
theorem bt_list (s : ByteArray) (i : Nat) (h : i < s.size) : bt s (i : Int) = ((s.data.toList[i]'(by rw [Array.length_toList]; exact h)).toNat : Int) := by
  unfold bt
  rw [dif_pos (by simpa using h)]
  simp
  rfl
theorem size_list (s : ByteArray) : s.data.toList.length = s.size := Array.length_toList
theorem read_l0 (s : ByteArray) (hs : s.size ≤ 6) (d : Nat) : ∀ (i acc : Nat), i + d = s.size → (acc + 1) * 10 ^ d ≤ 1000000 →
    Ev (fun k => spec_l1Read.l0 k s (acc : Int) (i : Int)) (if (s.data.toList.drop i).all isD = true then (valF acc (s.data.toList.drop i) : Int) else -1) := by
  induction d with
  | zero =>
    intro i acc hi _
    refine ev_some fun k => ?_
    simp only [spec_l1Read.l0]
    rw [if_neg (by omega), List.drop_of_length_le (by rw [size_list]; omega), val_nil]
    rfl
  | succ d ih =>
    intro i acc hi hb
    have hlt : i < s.size := by omega
    have hll : i < s.data.toList.length := by rw [size_list]; exact hlt
    have hbt := bt_list s i hlt
    rw [List.drop_eq_getElem_cons hll, List.all_cons]
    by_cases c : isD s.data.toList[i] = true
    · have hc := isD_iff.1 c
      rw [Nat.pow_succ] at hb
      have h1 : (acc * 10 + (s.data.toList[i].toNat - 48) + 1) * 10 ^ d ≤ (acc + 1) * (10 ^ d * 10) := pow_succ_le (by omega)
      have h5 : acc * 10 + (s.data.toList[i].toNat - 48) + 1 ≤ (acc * 10 + (s.data.toList[i].toNat - 48) + 1) * 10 ^ d := Nat.le_mul_of_pos_right _ (Nat.pow_pos (by omega))
      have h6 : acc * 10 + (s.data.toList[i].toNat - 48) + 1 ≤ 1000000 := Nat.le_trans h5 (Nat.le_trans h1 hb)
      rw [c, Bool.true_and]
      refine Ev.step (fun k => ?_) (ih (i + 1) (acc * 10 + (s.data.toList[i].toNat - 48)) (by omega) (Nat.le_trans h1 hb))
      simp only [spec_l1Read.l0]
      rw [if_pos (by omega), if_pos (by omega), hbt, if_neg (by omega), if_neg (by omega), wrap_id (i := 10 * (acc : Int)) (by omega) (by omega), wrap_id (i := (i : Int) + 1) (by omega) (by omega),
        show ((s.data.toList[i].toNat : Int) - 48) % 256 = (s.data.toList[i].toNat : Int) - 48 from Int.emod_eq_of_lt (by omega) (by omega), wrap_id (by omega) (by omega)]
      congr 1
      omega
    · have hc : ¬ (48 ≤ s.data.toList[i].toNat ∧ s.data.toList[i].toNat ≤ 57) := fun q => c (isD_iff.2 q)
      rw [show isD s.data.toList[i] = false by simpa using c, Bool.false_and]
      refine ev_some fun k => ?_
      simp only [spec_l1Read.l0]
      rw [if_pos (by omega), if_pos (by omega), hbt]
      by_cases q : (s.data.toList[i].toNat : Int) < 48
      · rw [if_pos q]; rfl
      · rw [if_neg q, if_pos (by omega)]; rfl
theorem read_ev (s : ByteArray) (hs : s.size ≤ 9223372036854775807) : Ev (fun k => spec_l1Read.f k s) (canon s.data.toList) := by
  unfold spec_l1Read.f
  simp only [l1In_eq, Option.bind_some]
  have bad : Ev (fun k => spec_l1Read.j0 k s true) (-1) := ev_some fun k => by simp [spec_l1Read.j0]
  have good : s.size ≤ 6 → Ev (fun k => spec_l1Read.j0 k s false) (if s.data.toList.all isD = true then (valF 0 s.data.toList : Int) else -1) := fun h6 => by
    refine Ev.step (f := fun k => spec_l1Read.l0 k s 0 0) (fun k => by simp [spec_l1Read.j0]) ?_
    have := read_l0 s h6 s.size 0 0 (by omega) (by have := pow_le6 h6; omega)
    simpa using this
  unfold canon canonOk
  rw [size_list]
  by_cases c : 1 ≤ s.size ∧ s.size ≤ 6
  · rw [decide_eq_true (p := 1 ≤ s.size ∧ s.size ≤ 6) c, show decide ((1 : Int) ≤ (s.size : Int) ∧ (s.size : Int) ≤ 6) = true from decide_eq_true (by omega), Bool.true_and]
    simp only [if_true]
    have hb := bt_list s 0 (by omega)
    have hh : s.data.toList.head? = some (s.data.toList[0]'(by rw [size_list]; omega)) := List.head?_eq_getElem? .. |>.trans (List.getElem?_eq_getElem _)
    rw [hh]
    simp only [if_pos (show (0 : Int) < (s.size : Int) by omega), show bt s 0 = _ from hb]
    by_cases z : s.data.toList[0]'(by rw [size_list]; omega) = 48
    · rw [z]
      simp only [show ((48 : UInt8).toNat : Int) = 48 from rfl, if_true, decide_true, Bool.true_and]
      by_cases o : 1 < s.size
      · rw [show decide ((s.size : Int) > 1) = true from decide_eq_true (by omega), decide_eq_true o]
        exact bad
      · rw [show decide ((s.size : Int) > 1) = false from decide_eq_false (by omega), decide_eq_false o]
        simpa using good c.2
    · have zn : ¬ (((s.data.toList[0]'(by rw [size_list]; omega)).toNat : Int) = 48) := fun q => z (UInt8.toNat_inj.1 (by have : (48 : UInt8).toNat = 48 := rfl; omega))
      simp only [if_neg zn]
      rw [show decide (some (s.data.toList[0]'(by rw [size_list]; omega)) = some 48) = false from decide_eq_false (fun q => z (Option.some.inj q))]
      simpa using good c.2
  · rw [decide_eq_false (p := 1 ≤ s.size ∧ s.size ≤ 6) c, show decide ((1 : Int) ≤ (s.size : Int) ∧ (s.size : Int) ≤ 6) = false from decide_eq_false (by omega), Bool.false_and]
    simpa using bad
def spl (b : UInt8) (cur : List UInt8) : List UInt8 → List (List UInt8)
  | [] => [cur]
  | c :: r => if c = b then cur :: spl b [] r else spl b (cur ++ [c]) r
def mkB (l : List UInt8) : ByteArray := ⟨l.toArray⟩
theorem mkB_data (l : List UInt8) : (mkB l).data.toList = l := by simp [mkB]
theorem mkB_size (l : List UInt8) : (mkB l).size = l.length := by rw [← size_list, mkB_data]
theorem ba_ext {a b : ByteArray} (h : a.data.toList = b.data.toList) : a = b := by
  apply ByteArray.ext
  exact Array.toList_inj.1 h
theorem mkB_of (s : ByteArray) : mkB s.data.toList = s := ba_ext (mkB_data _)
theorem extr (s : ByteArray) (f i : Nat) : s.extract f i = mkB ((s.data.toList.drop f).take (i - f)) := ba_ext (by rw [Lib.extract_data, mkB_data])
theorem split_l0 (s : ByteArray) (hs : s.size ≤ 1048576) (b : UInt8) (d : Nat) : ∀ (i f : Nat) (out : List ByteArray), i + d = s.size → f ≤ i → out.length ≤ i →
    Ev (fun k => spec_l1Split.l0 k s (b.toNat : Int) out (f : Int) (i : Int)) (out ++ (spl b ((s.data.toList.drop f).take (i - f)) (s.data.toList.drop i)).map mkB) := by
  induction d with
  | zero =>
    intro i f out hi hf ho
    refine ev_some fun k => ?_
    simp only [spec_l1Split.l0]
    rw [if_neg (by omega), if_pos (by omega), if_pos (by omega), if_pos (by omega), List.drop_of_length_le (i := i) (by rw [size_list]; omega)]
    rw [show (f : Int).toNat = f from rfl, extr, show i = s.size by omega]
    rfl
  | succ d ih =>
    intro i f out hi hf ho
    have hlt : i < s.size := by omega
    have hll : i < s.data.toList.length := by rw [size_list]; exact hlt
    have hbt := bt_list s i hlt
    rw [List.drop_eq_getElem_cons hll]
    have hw : wrap64 ((i : Int) + 1) = ((i + 1 : Nat) : Int) := by rw [wrap_id (by omega) (by omega)]; omega
    by_cases c : s.data.toList[i] = b
    · rw [spl, if_pos c, List.map_cons]
      have := ih (i + 1) (i + 1) (out ++ [mkB ((s.data.toList.drop f).take (i - f))]) (by omega) (by omega) (by simp; omega)
      rw [show i + 1 - (i + 1) = 0 by omega, List.take_zero, List.append_assoc] at this
      refine Ev.step (fun k => ?_) this
      simp only [spec_l1Split.l0]
      rw [if_pos (by omega), if_pos (by omega), hbt, c, if_pos rfl, if_pos (by omega), if_pos (by omega), if_pos (by omega), if_pos (by omega), hw, show (f : Int).toNat = f from rfl, show (i : Int).toNat = i from rfl, extr]
    · rw [spl, if_neg c]
      have := ih (i + 1) f out (by omega) (by omega) (by omega)
      have e : (s.data.toList.drop f).take (i + 1 - f) = (s.data.toList.drop f).take (i - f) ++ [s.data.toList[i]] := by
        rw [show i + 1 - f = (i - f) + 1 by omega, List.take_add_one, List.getElem?_drop, show f + (i - f) = i by omega, List.getElem?_eq_getElem hll]
        rfl
      rw [e] at this
      refine Ev.step (fun k => ?_) this
      simp only [spec_l1Split.l0]
      rw [if_pos (by omega), if_pos (by omega), hbt, if_neg (fun q => c (UInt8.toNat_inj.1 (by omega))), hw]
theorem split_ev (s : ByteArray) (hs : s.size ≤ 1048576) (b : UInt8) : Ev (fun k => spec_l1Split.f k s (b.toNat : Int)) ((spl b [] s.data.toList).map mkB) := by
  have := split_l0 s hs b s.size 0 0 [] (by omega) (by omega) (by simp)
  simpa [spec_l1Split.f] using this
def cutL (b : UInt8) : List UInt8 → List UInt8 × List UInt8 × Bool
  | [] => ([], [], false)
  | c :: r => if c = b then ([], r, true) else (c :: (cutL b r).1, (cutL b r).2.1, (cutL b r).2.2)
theorem index_one (b : UInt8) (s : List UInt8) : Lib.index s [b] = if (cutL b s).2.2 = true then (((cutL b s).1).length : Int) else -1 := by
  induction s with
  | nil => rfl
  | cons c r ih =>
    have hp : List.isPrefixOf [b] (c :: r) = (b == c) := by simp [List.isPrefixOf]
    unfold Lib.index cutL
    rw [hp, ih]
    by_cases e : c = b
    · subst e
      simp
    · have e2 : (b == c) = false := beq_eq_false_iff_ne.2 (fun q => e q.symm)
      rw [e2, if_neg e]
      simp only [Bool.false_eq_true, if_false]
      cases (cutL b r).2.2 with
      | false => simp
      | true =>
        simp only [if_true]
        rw [if_neg (by first | (simp; done) | (simp; omega))]
        simp
theorem cut_join (b : UInt8) (s : List UInt8) : (cutL b s).2.2 = true → s = (cutL b s).1 ++ b :: (cutL b s).2.1 := by
  induction s with
  | nil => intro h; cases h
  | cons c r ih =>
    intro h
    unfold cutL at h ⊢
    by_cases e : c = b
    · rw [if_pos e]; subst e; rfl
    · rw [if_neg e] at h ⊢
      have := ih h
      show c :: r = c :: ((cutL b r).1 ++ b :: (cutL b r).2.1)
      rw [← this]
theorem spl_cut (b : UInt8) (s : List UInt8) : ∀ cur, spl b cur s = if (cutL b s).2.2 = true then (cur ++ (cutL b s).1) :: spl b [] (cutL b s).2.1 else [cur ++ s] := by
  induction s with
  | nil => intro cur; simp [spl, cutL]
  | cons c r ih =>
    intro cur
    rw [show spl b cur (c :: r) = if c = b then cur :: spl b [] r else spl b (cur ++ [c]) r from rfl, show cutL b (c :: r) = if c = b then ([], r, true) else (c :: (cutL b r).1, (cutL b r).2.1, (cutL b r).2.2) from rfl]
    by_cases e : c = b
    · rw [if_pos e, if_pos e]; simp
    · rw [if_neg e, if_neg e, ih]
      simp only [List.append_assoc, List.singleton_append]
def numV (most : Int) (l : List UInt8) : Int × Bool := if 0 ≤ canon l ∧ canon l ≤ most then (canon l, true) else (0, false)
theorem number_f (l : List UInt8) (hl : l.length ≤ 1048576) (most : Int) (h0 : 0 ≤ most) (h1 : most ≤ 999999) : impl_number.f (mkB l) most = some (numV most l) := by
  unfold impl_number.f
  rw [if_pos (by rw [mkB_size]; exact hl), number_eq _ _ h0 h1, mkB_data]
  rfl
theorem dec_of_canon {l : List UInt8} (h : 0 ≤ canon l) : l = Lib.decDigits (canon l).toNat ∧ canonOk l = true := by
  unfold canon at h ⊢
  by_cases c : canonOk l = true
  · rw [if_pos c]
    exact ⟨(dec_canon c).symm, c⟩
  · rw [if_neg c] at h
    omega
theorem splitK_spl (b : UInt8) : ∀ (n : Nat) (s : List UInt8), s.length + 1 ≤ n → Lib.splitK [b] 0 (Lib.countFrom [b] n s) s = spl b [] s := by
  intro n
  induction n with
  | zero => intro s h; omega
  | succ n ih =>
    intro s h
    rw [spl_cut, List.nil_append, List.nil_append]
    have hi := index_one b s
    unfold Lib.countFrom
    cases ho : (cutL b s).2.2 with
    | false =>
      rw [ho] at hi
      simp only [Bool.false_eq_true, if_false] at hi ⊢
      rw [hi, if_pos (by rfl)]
      rfl
    | true =>
      rw [ho] at hi
      simp only [if_true] at hi ⊢
      have hj := cut_join b s ho
      have hg : ∀ p q : List UInt8, s = p ++ b :: q → s.take p.length = p ∧ s.drop (p.length + 1) = q ∧ q.length + 1 ≤ s.length := by
        rintro p q rfl
        exact ⟨by simp, by rw [List.drop_append]; simp, by rw [List.length_append, List.length_cons]; omega⟩
      obtain ⟨g1, g2, g3⟩ := hg _ _ hj
      have hne : ¬ (Lib.index s [b] == -1) = true := fun q => by have := beq_iff_eq.1 q; omega
      have ht : (Lib.index s [b]).toNat = (cutL b s).1.length := by rw [hi]; rfl
      rw [if_neg hne, Nat.add_comm 1]
      unfold Lib.splitK
      rw [if_neg hne, ht]
      simp only [List.length_cons, List.length_nil, Nat.zero_add, Nat.add_zero]
      rw [g1, g2, ih _ (by omega)]
theorem map_mkB (xs : List ByteArray) (ws : List (List UInt8)) (h : xs.map (·.data.toList) = ws) : xs = ws.map mkB := by
  rw [← h, List.map_map]
  have : (mkB ∘ fun x : ByteArray => x.data.toList) = id := by funext x; exact mkB_of x
  rw [this, List.map_id]
theorem split_f (s : List UInt8) (hs : s.length ≤ 1048576) (b : UInt8) : strings_Split.f (mkB s) ⟨#[b]⟩ = some ((spl b [] s).map mkB) := by
  unfold strings_Split.f
  rw [if_pos ⟨by rw [mkB_size]; exact hs, Nat.le_refl 1⟩]
  congr 1
  apply map_mkB
  rw [Lib.splitB_data]
  unfold Lib.countB Lib.count
  rw [mkB_data]
  exact splitK_spl b _ s (Nat.le_refl _)
theorem spl_sizes (b : UInt8) (s : List UInt8) : ∀ cur, (∀ w ∈ spl b cur s, w.length ≤ cur.length + s.length) ∧ (spl b cur s).length ≤ s.length + 1 ∧ 1 ≤ (spl b cur s).length := by
  induction s with
  | nil => intro cur; simp [spl]
  | cons c r ih =>
    intro cur
    rw [show spl b cur (c :: r) = if c = b then cur :: spl b [] r else spl b (cur ++ [c]) r from rfl]
    by_cases e : c = b
    · rw [if_pos e]
      obtain ⟨i1, i2, i3⟩ := ih []
      refine ⟨fun w hw => ?_, by simp; omega, by simp⟩
      rcases List.mem_cons.1 hw with rfl | hw
      · simp
      · have := i1 w hw; simp at this ⊢; omega
    · rw [if_neg e]
      obtain ⟨i1, i2, i3⟩ := ih (cur ++ [c])
      refine ⟨fun w hw => ?_, by simp; omega, i3⟩
      have := i1 w hw; simp at this ⊢; omega
theorem spl_join (b : UInt8) (s : List UInt8) : ∀ cur, Lib.join (spl b cur s) [b] = cur ++ s := by
  induction s with
  | nil => intro cur; simp [spl, Lib.join_one]
  | cons c r ih =>
    intro cur
    rw [show spl b cur (c :: r) = if c = b then cur :: spl b [] r else spl b (cur ++ [c]) r from rfl]
    by_cases e : c = b
    · rw [if_pos e]
      have h := ih []
      have hl := (spl_sizes b r []).2.2
      cases hx : spl b [] r with
      | nil => rw [hx] at hl; simp at hl
      | cons y ys =>
        rw [hx] at h
        rw [Lib.join_cons] at h ⊢
        rw [show Lib.joinTail [b] (y :: ys) = [b] ++ (y ++ Lib.joinTail [b] ys) by simp [Lib.joinTail]]
        rw [h, e]
        simp
    · rw [if_neg e, ih]
      simp
theorem num_all : ∀ n : Nat, n < 100 → spec_l1Num.f 3 (n : Int) = some ⟨(Lib.decDigits n).toArray⟩ := by decide +kernel
theorem num_ev (z : Int) (h0 : 0 ≤ z) (h1 : z < 100) : Ev (fun k => spec_l1Num.f k z) ⟨(Lib.decDigits z.toNat).toArray⟩ := by
  have e : ((z.toNat : Nat) : Int) = z := Int.toNat_of_nonneg h0
  have := num_all z.toNat (by omega)
  rw [e] at this
  exact Ev.of (fun k => spec_l1Num.mono z k) this
theorem num_size (n : Nat) (h : n < 100) : (⟨(Lib.decDigits n).toArray⟩ : ByteArray).size ≤ 2 := by
  revert n
  decide +kernel
theorem itoa_eq (z : Int) (h0 : 0 ≤ z) (h1 : z < 100) : strconv_Itoa.f z = some ⟨(Lib.decDigits z.toNat).toArray⟩ := by
  unfold strconv_Itoa.f
  rw [if_pos ⟨h0, h1⟩]
def kNum (z : Int) : ByteArray := ⟨(Lib.decDigits z.toNat).toArray⟩
def kTxt (xs : List Int) : ByteArray := ⟨(Lib.join (xs.map fun z => Lib.decDigits z.toNat) [45]).toArray⟩
theorem kJoin_snoc (y : List UInt8) (s : List UInt8) (xs : List (List UInt8)) (h : xs ≠ []) : Lib.join (xs ++ [y]) s = Lib.join xs s ++ s ++ y := by
  cases xs with
  | nil => exact absurd rfl h
  | cons x xs =>
    rw [List.cons_append, Lib.join_cons, Lib.join_cons]
    simp [Lib.joinTail]
theorem kTxt_snoc (xs : List Int) (z : Int) (h : xs ≠ []) : kTxt (xs ++ [z]) = (kTxt xs ++ (⟨#[45]⟩ : ByteArray)) ++ kNum z := by
  unfold kTxt kNum
  rw [List.map_append, List.map_singleton, kJoin_snoc _ _ _ (by simpa using h)]
  apply ByteArray.ext
  simp
theorem kTxt_one (z : Int) : kTxt [z] = kNum z := by
  unfold kTxt kNum
  rw [List.map_singleton, Lib.join_one]
theorem take_snoc (l : List Int) (i : Nat) (h : i < l.length) : l.take i ++ [l[i]] = l.take (i + 1) := by
  rw [List.take_add_one, List.getElem?_eq_getElem h]
  rfl
theorem kNum_size (z : Int) (h0 : 1 ≤ z) (h1 : z ≤ 20) : (kNum z).size ≤ 2 := num_size z.toNat (by omega)
theorem bsize (a b : ByteArray) : (a ++ b).size = a.size + b.size := by simp
theorem goText_l0 (l : List Int) (hl : l.length ≤ 5) (hz : ∀ x ∈ l, 1 ≤ x ∧ x ≤ 20) (d : Nat) : ∀ i : Nat, i + d = l.length → i ≠ 0 → (kTxt (l.take i)).size ≤ 3 * i →
    Ev (fun k => spec_goText.l0 k (kTxt (l.take i)) l (l.length : Int) (i : Int)) (kTxt l) := by
  induction d with
  | zero =>
    intro i hi _ _
    refine ev_some fun k => ?_
    simp only [spec_goText.l0]
    rw [if_neg (by omega), List.take_of_length_le (by omega)]
  | succ d ih =>
    intro i hi h0 hs
    have hlt : i < l.length := by omega
    obtain ⟨z1, z2⟩ := hz l[i] (List.getElem_mem hlt)
    have hwi : wrap64 ((i : Int) + 1) = ((i + 1 : Nat) : Int) := by rw [wrap_id (by omega) (by omega)]; omega
    have et : kTxt (l.take (i + 1)) = (kTxt (l.take i) ++ (⟨#[45]⟩ : ByteArray)) ++ kNum l[i] := by
      rw [← take_snoc l i hlt]
      exact kTxt_snoc _ _ (by intro e; have := congrArg List.length e; rw [List.length_take, List.length_nil] at this; omega)
    have e45 : (⟨#[45]⟩ : ByteArray).size = 1 := rfl
    have hk := kNum_size l[i] z1 z2
    have hs2 : (kTxt (l.take (i + 1))).size ≤ 3 * (i + 1) := by rw [et, bsize, bsize, e45]; exact Nat.le_trans (Nat.add_le_add (Nat.add_le_add_right hs 1) hk) (by omega)
    have hi2 := ih (i + 1) (by omega) (by omega) hs2
    rw [et] at hi2
    refine Ev.step (f := fun k => (spec_l1Num.f k l[i]).bind fun t114 => if (kTxt (l.take i) ++ (⟨#[45]⟩ : ByteArray)).size + t114.size ≤ 9223372036854775807 then spec_goText.l0 k ((kTxt (l.take i) ++ (⟨#[45]⟩ : ByteArray)) ++ t114) l (l.length : Int) ((i + 1 : Nat) : Int) else none) (fun k => ?_) ?_
    · simp only [spec_goText.l0]
      rw [if_pos (by omega), if_pos (by omega), if_pos (by omega), if_pos (by omega), if_pos (by omega), rdI l i hlt, hwi]
    · refine Ev.bind (num_ev l[i] (by omega) (by omega)) ?_
      have hc : (kTxt (l.take i) ++ (⟨#[45]⟩ : ByteArray)).size + (kNum l[i]).size ≤ 9223372036854775807 := by rw [bsize, e45]; omega
      simp only [kNum] at hc hi2 ⊢
      simp only [if_pos hc]
      exact hi2
theorem goText_ev (l : List Int) (h1 : 1 ≤ l.length) (hl : l.length ≤ 5) (hz : ∀ x ∈ l, 1 ≤ x ∧ x ≤ 20) : Ev (fun k => spec_goText.f k l) (kTxt l) := by
  unfold spec_goText.f
  obtain ⟨z1, z2⟩ := hz l[0] (List.getElem_mem (by omega))
  have et : kTxt (l.take (0 + 1)) = kNum l[0] := by
    rw [← take_snoc l 0 (by omega)]
    simpa using kTxt_one l[0]
  have hk := kNum_size l[0] z1 z2
  have hi := goText_l0 l hl hz (l.length - 1) 1 (by omega) (by omega) (by rw [et]; omega)
  rw [et] at hi
  refine Ev.step (f := fun k => (spec_l1Num.f k l[0]).bind fun t115 => if (⟨#[]⟩ : ByteArray).size + t115.size ≤ 9223372036854775807 then spec_goText.l0 k ((⟨#[]⟩ : ByteArray) ++ t115) l (l.length : Int) 1 else none) (fun k => ?_) ?_
  · simp only [spec_goText.l0]
    have hr : rd l 0 = l[0] := rdI l 0 (by omega)
    rw [if_pos (by omega), if_pos (by omega), if_pos (by omega), if_neg (by omega), hr, wrap_id (by omega) (by omega)]
    rfl
  · refine Ev.bind (num_ev l[0] (by omega) (by omega)) ?_
    have e0 : (⟨#[]⟩ : ByteArray).size = 0 := rfl
    have hc : (⟨#[]⟩ : ByteArray).size + (kNum l[0]).size ≤ 9223372036854775807 := by rw [e0]; omega
    have ea : (⟨#[]⟩ : ByteArray) ++ kNum l[0] = kNum l[0] := by apply ByteArray.ext; simp
    simp only [kNum] at hc ea hi ⊢
    simp only [if_pos hc, ea]
    exact hi
theorem kTxt_size (l : List Int) (hl : l.length ≤ 5) (hz : ∀ x ∈ l, 1 ≤ x ∧ x ≤ 20) : ∀ i : Nat, i ≤ l.length → (kTxt (l.take i)).size ≤ 3 * i := by
  intro i
  induction i with
  | zero => intro _; simp [kTxt, Lib.join_nil, ByteArray.size]
  | succ i ih =>
    intro hi
    have hlt : i < l.length := by omega
    obtain ⟨z1, z2⟩ := hz l[i] (List.getElem_mem hlt)
    have hk := kNum_size l[i] z1 z2
    have e45 : (⟨#[45]⟩ : ByteArray).size = 1 := rfl
    rw [← take_snoc l i hlt]
    by_cases h0 : i = 0
    · subst h0
      have e := kTxt_one l[0]
      simp only [List.take_zero, List.nil_append]
      rw [e]
      omega
    · rw [kTxt_snoc _ _ (by intro e; have := congrArg List.length e; rw [List.length_take, List.length_nil] at this; omega), bsize, bsize, e45]
      have := ih (by omega)
      exact Nat.le_trans (Nat.add_le_add (Nat.add_le_add_right this 1) hk) (by omega)
theorem joinNumbers_l0 (l : List Int) (hl : l.length ≤ 5) (hz : ∀ x ∈ l, 1 ≤ x ∧ x ≤ 20) (hb : (kTxt l).size ≤ 100) (d : Nat) : ∀ i : Nat, i + d = l.length →
    Ev (fun k => impl_joinNumbers.l0 k ⟨#[45]⟩ ((l.take i).map kNum) l (l.length : Int) (i : Int)) (kTxt l) := by
  induction d with
  | zero =>
    intro i hi
    refine ev_some fun k => ?_
    simp only [impl_joinNumbers.l0]
    rw [if_neg (by omega), List.take_of_length_le (by omega)]
    have em : (l.map kNum).map (·.data.toList) = l.map fun z => Lib.decDigits z.toNat := by simp [kNum, List.map_map, Function.comp_def]
    have es : (Lib.join (l.map fun z => Lib.decDigits z.toNat) [45]).length = (kTxt l).size := by simp [kTxt, ByteArray.size]
    unfold strings_Join.f
    rw [em, if_pos ⟨by simp; omega, by simpa [es] using (by omega : (kTxt l).size ≤ 140737488355328)⟩]
    rfl
  | succ d ih =>
    intro i hi
    have hlt : i < l.length := by omega
    obtain ⟨z1, z2⟩ := hz l[i] (List.getElem_mem hlt)
    have hwi : wrap64 ((i : Int) + 1) = ((i + 1 : Nat) : Int) := by rw [wrap_id (by omega) (by omega)]; omega
    refine Ev.step (fun k => ?_) (ih (i + 1) (by omega))
    simp only [impl_joinNumbers.l0]
    rw [if_pos (by omega), if_pos (by omega), if_pos (by omega), rdI l i hlt, itoa_eq l[i] (by omega) (by omega), hwi]
    simp only [Option.bind_some]
    rw [if_pos (by simp; omega), ← take_snoc l i hlt, List.map_append, List.map_singleton]
    rfl
theorem rdW (ws : List (List UInt8)) (i : Nat) (h : i < ws.length) : rdOf ByteArray.empty (ws.map mkB) (i : Int) = mkB ws[i] := by
  unfold rdOf
  simp [List.getD_eq_getElem?_getD, List.getElem?_eq_getElem h]
def numOk (w : List UInt8) : Bool := decide (0 ≤ canon w ∧ canon w ≤ 20)
theorem numV_ok {w : List UInt8} (h : numOk w = true) : numV 20 w = (canon w, true) := if_pos (of_decide_eq_true h)
theorem numV_no {w : List UInt8} (h : numOk w = false) : numV 20 w = (0, false) := if_neg (of_decide_eq_false h)
theorem implK_l0 (ws : List (List UInt8)) (hl : ws.length ≤ 1048577) (hz : ∀ w ∈ ws, w.length ≤ 1048576) (res : List Int × Bool) (d : Nat) : ∀ i : Nat, i + d = ws.length →
    ((ws.drop i).all numOk = true → Ev (fun k => (impl_AreKinds.f k (ws.map canon)).bind fun t149 => (if t149 = true then (some (ws.map canon, true)) else (some (([] : List Int), false)))) res) → ((ws.drop i).all numOk = false → res = ([], false)) →
    Ev (fun k => impl_ParseKinds.l0 k ((ws.take i).map canon) (ws.map mkB) (ws.length : Int) (i : Int)) res := by
  induction d with
  | zero =>
    intro i hi h1 _
    rw [List.drop_of_length_le (by omega)] at h1
    refine Ev.step (fun k => ?_) (h1 rfl)
    simp only [impl_ParseKinds.l0]
    rw [if_neg (by omega), List.take_of_length_le (by omega)]
  | succ d ih =>
    intro i hi h1 h2
    have hlt : i < ws.length := by omega
    rw [List.drop_eq_getElem_cons hlt, List.all_cons] at h1 h2
    have hz1 := hz ws[i] (List.getElem_mem hlt)
    have hw : wrap64 ((i : Int) + 1) = ((i + 1 : Nat) : Int) := by rw [wrap_id (by omega) (by omega)]; omega
    cases c : numOk ws[i] with
    | false =>
      rw [h2 (by rw [c]; rfl)]
      refine ev_some fun k => ?_
      simp only [impl_ParseKinds.l0]
      rw [if_pos (by omega), if_pos (by omega), if_pos (by rw [List.length_map]; omega), rdW ws i hlt, number_f _ hz1 20 (by omega) (by omega), Option.bind_some, numV_no c]
      rfl
    | true =>
      rw [c, Bool.true_and] at h1 h2
      have := ih (i + 1) (by omega) h1 h2
      have et : (ws.take (i + 1)).map canon = (ws.take i).map canon ++ [canon ws[i]] := by
        rw [List.take_add_one, List.getElem?_eq_getElem hlt, List.map_append]; rfl
      rw [et] at this
      refine Ev.step (fun k => ?_) this
      simp only [impl_ParseKinds.l0]
      rw [if_pos (by omega), if_pos (by omega), if_pos (by rw [List.length_map]; omega), rdW ws i hlt, number_f _ hz1 20 (by omega) (by omega), Option.bind_some, numV_ok c]
      simp only [if_true]
      rw [if_pos (by simp; omega), hw]
theorem specK_l0 (s : ByteArray) (ws : List (List UInt8)) (hl : ws.length ≤ 1048577) (hz : ∀ w ∈ ws, w.length ≤ 1048576) (res : List Int × Bool)
    (hk : Ev (fun k => (spec_goKinds.f k (ws.map canon)).bind fun t131 => (if t131 = true then ((spec_goText.f k (ws.map canon)).bind fun t132 => (if t132.toList = s.toList then (some (ws.map canon, true)) else (some (([] : List Int), false)))) else (some (([] : List Int), false)))) res) (d : Nat) : ∀ i : Nat, i + d = ws.length →
    Ev (fun k => spec_ParseKinds.l0 k s ((ws.take i).map canon) (ws.map mkB) (ws.length : Int) (i : Int)) res := by
  induction d with
  | zero =>
    intro i hi
    refine Ev.step (fun k => ?_) hk
    simp only [spec_ParseKinds.l0]
    rw [if_neg (by omega), List.take_of_length_le (by omega)]
  | succ d ih =>
    intro i hi
    have hlt : i < ws.length := by omega
    have hz1 := hz ws[i] (List.getElem_mem hlt)
    have hw : wrap64 ((i : Int) + 1) = ((i + 1 : Nat) : Int) := by rw [wrap_id (by omega) (by omega)]; omega
    have e1 := read_ev (mkB ws[i]) (by rw [mkB_size]; omega)
    rw [mkB_data] at e1
    have := ih (i + 1) (by omega)
    have et : (ws.take (i + 1)).map canon = (ws.take i).map canon ++ [canon ws[i]] := by
      rw [List.take_add_one, List.getElem?_eq_getElem hlt, List.map_append]; rfl
    rw [et] at this
    refine Ev.step (f := fun k => (spec_l1Read.f k (mkB ws[i])).bind fun t127 => spec_ParseKinds.l0 k s ((ws.take i).map canon ++ [t127]) (ws.map mkB) (ws.length : Int) ((i + 1 : Nat) : Int)) (fun k => ?_) (Ev.bind e1 this)
    simp only [spec_ParseKinds.l0]
    rw [if_pos (by omega), if_pos (by omega), if_pos (by rw [List.length_map]; omega), rdW ws i hlt, hw]
    congr 1
    funext t
    rw [if_pos (by simp; omega)]
theorem kinds_both (l : List UInt8) (hl : l.length ≤ 1048576) : ∃ v : List Int × Bool, v.1.length ≤ 5 ∧ Ev (fun k => spec_ParseKinds.f k (mkB l)) v ∧ Ev (fun k => impl_ParseKinds.f k (mkB l)) v ∧ (v.2 = true → IsK v.1 ∧ Ev (fun k => spec_goKinds.f k v.1) true ∧ Ev (fun k => impl_AreKinds.f k v.1) true ∧ mkB l = kTxt v.1) ∧ (Ev (fun k => impl_AreKinds.f k ((spl 45 [] l).map canon)) true → v = ((spl 45 [] l).map canon, true)) := by
  obtain ⟨s1, s2, s3⟩ := spl_sizes 45 l []
  have hz : ∀ w ∈ spl 45 [] l, w.length ≤ 1048576 := fun w hw => by have := s1 w hw; simp at this; omega
  have hsplit := split_ev (mkB l) (by rw [mkB_size]; exact hl) 45
  rw [mkB_data] at hsplit
  rw [show ((45 : UInt8).toNat : Int) = 45 from rfl] at hsplit
  have hjoin := spl_join 45 l []
  rw [List.nil_append] at hjoin
  generalize hws : spl 45 [] l = ws at s1 s2 s3 hz hsplit hjoin
  obtain ⟨b, hb1, hb2, hb3⟩ := areK_ev (ws.map canon) (by simp; omega)
  have wl : ((ws.map mkB).length : Int) = (ws.length : Int) := by simp
  have implD : ∀ res, (ws.all numOk = true → Ev (fun k => (impl_AreKinds.f k (ws.map canon)).bind fun t149 => (if t149 = true then (some (ws.map canon, true)) else (some (([] : List Int), false)))) res) → (ws.all numOk = false → res = ([], false)) → Ev (fun k => impl_ParseKinds.f k (mkB l)) res := by
    intro res h1 h2
    unfold impl_ParseKinds.f
    simp only [split_f l hl 45, Option.bind_some, hws, wl]
    have := implK_l0 ws (by omega) hz res ws.length 0 (by omega) (by simpa using h1) (by simpa using h2)
    simpa using this
  have specD : ¬ ((mkB l).size : Int) > 20 → ∀ res, Ev (fun k => (spec_goKinds.f k (ws.map canon)).bind fun t131 => (if t131 = true then ((spec_goText.f k (ws.map canon)).bind fun t132 => (if t132.toList = (mkB l).toList then (some (ws.map canon, true)) else (some (([] : List Int), false)))) else (some (([] : List Int), false)))) res → Ev (fun k => spec_ParseKinds.f k (mkB l)) res := by
    intro hs res hk
    unfold spec_ParseKinds.f
    simp only [if_neg hs]
    refine Ev.bind hsplit ?_
    simp only [wl]
    have := specK_l0 (mkB l) ws (by omega) hz res hk ws.length 0 (by omega)
    simpa using this
  have allok : b = true → ws.all numOk = true := fun hb => List.all_eq_true.2 fun w hw => by
    have := (hb3 hb).mem (canon w) (List.mem_map.2 ⟨w, hw, rfl⟩)
    unfold numOk
    exact decide_eq_true (by omega)
  cases b with
  | true =>
    have q1 := (hb3 rfl).l1
    have q2 := (hb3 rfl).l5
    have q3 := (hb3 rfl).mem
    have hall := allok rfl
    have hk : (mkB l) = kTxt (ws.map canon) := by
      unfold kTxt
      have e : ((ws.map canon).map fun z => Lib.decDigits z.toNat) = ws := by
        rw [List.map_map]
        conv => rhs; rw [← List.map_id ws]
        refine List.map_congr_left fun w hw => ?_
        have := q3 (canon w) (List.mem_map.2 ⟨w, hw, rfl⟩)
        exact (dec_of_canon (l := w) (by omega)).1.symm
      rw [e, hjoin]
      rfl
    have hsz := kTxt_size (ws.map canon) q2 q3 (ws.map canon).length (Nat.le_refl _)
    rw [List.take_length, ← hk] at hsz
    have hs20 : ¬ ((mkB l).size : Int) > 20 := by omega
    refine ⟨(ws.map canon, true), q2, specD hs20 _ ?_, implD _ (fun _ => ?_) (fun h => by rw [hall] at h; cases h), fun _ => ⟨hb3 rfl, hb1, hb2, hk⟩, fun _ => rfl⟩
    · refine Ev.bind hb1 ?_
      simp only [if_true]
      refine Ev.bind (goText_ev (ws.map canon) q1 q2 q3) ?_
      rw [← hk]
      simp only [if_true]
      exact Ev.now _
    · refine Ev.bind hb2 ?_
      simp only [if_true]
      exact Ev.now _
  | false =>
    refine ⟨([], false), by simp, ?_, implD _ (fun _ => ?_) (fun _ => rfl), fun h => (by cases h), fun h => (by cases ev_uniq h hb2)⟩
    · by_cases c : ((mkB l).size : Int) > 20
      · unfold spec_ParseKinds.f
        simp only [if_pos c]
        exact Ev.now _
      · refine specD c _ (Ev.bind hb1 ?_)
        simp only [Bool.false_eq_true, if_false]
        exact Ev.now _
    · refine Ev.bind hb2 ?_
      simp only [Bool.false_eq_true, if_false]
      exact Ev.now _
theorem spl_last (b : UInt8) (x : List UInt8) : b ∉ x → ∀ cur, spl b cur x = [cur ++ x] := by
  induction x with
  | nil => intro _ cur; rw [List.append_nil]; rfl
  | cons c r ih =>
    intro h cur
    rw [show spl b cur (c :: r) = if c = b then cur :: spl b [] r else spl b (cur ++ [c]) r from rfl, if_neg (fun e => h (by rw [e]; exact List.mem_cons_self)), ih (fun q => h (List.mem_cons_of_mem _ q)), List.append_assoc]
    rfl
theorem spl_word (b : UInt8) (x r : List UInt8) : b ∉ x → ∀ cur, spl b cur (x ++ b :: r) = (cur ++ x) :: spl b [] r := by
  induction x with
  | nil =>
    intro _ cur
    rw [List.nil_append, show spl b cur (b :: r) = if b = b then cur :: spl b [] r else spl b (cur ++ [b]) r from rfl, if_pos rfl, List.append_nil]
  | cons c x ih =>
    intro h cur
    rw [List.cons_append, show spl b cur (c :: (x ++ b :: r)) = if c = b then cur :: spl b [] (x ++ b :: r) else spl b (cur ++ [c]) (x ++ b :: r) from rfl, if_neg (fun e => h (by rw [e]; exact List.mem_cons_self)), ih (fun q => h (List.mem_cons_of_mem _ q)), List.append_assoc]
    rfl
theorem spl_inv (b : UInt8) (ws : List (List UInt8)) : ws ≠ [] → (∀ w ∈ ws, b ∉ w) → spl b [] (Lib.join ws [b]) = ws := by
  induction ws with
  | nil => intro h; exact absurd rfl h
  | cons x xs ih =>
    intro _ h
    have hx := h x List.mem_cons_self
    cases xs with
    | nil =>
      rw [Lib.join_one, spl_last b x hx, List.nil_append]
    | cons y ys =>
      have hi := ih (by simp) (fun w hw => h w (List.mem_cons_of_mem _ hw))
      have e : Lib.join (x :: y :: ys) [b] = x ++ b :: Lib.join (y :: ys) [b] := by
        rw [Lib.join_cons, Lib.join_cons]
        simp [Lib.joinTail]
      rw [e, spl_word b x _ hx, hi, List.nil_append]
theorem dec_no (n : Nat) : (45 : UInt8) ∉ Lib.decDigits n := by
  intro h
  have h2 := List.all_eq_true.1 (dec_facts n).2.1 45 h
  revert h2
  decide
theorem back_ev {u : List Int} (hK : IsK u) (hA : Ev (fun k => impl_AreKinds.f k u) true) : Ev (fun k => impl_ParseKinds.f k (kTxt u)) (u, true) := by
  have hz := hK.mem
  have hsz := kTxt_size u hK.l5 hz u.length (Nat.le_refl _)
  rw [List.take_length] at hsz
  have h5 := hK.l5
  have h1 := hK.l1
  obtain ⟨v, _, _, hv, _, hu⟩ := kinds_both (kTxt u).data.toList (by rw [size_list]; omega)
  rw [mkB_of] at hv
  have e : (spl 45 [] (kTxt u).data.toList).map canon = u := by
    rw [show (kTxt u).data.toList = Lib.join (u.map fun z => Lib.decDigits z.toNat) [45] by unfold kTxt; simp, spl_inv 45 _ (by intro q; have := congrArg List.length q; simp at this; rw [this] at h1; simp at h1) (fun w hw => by
      obtain ⟨z, _, rfl⟩ := List.mem_map.1 hw
      exact dec_no _), List.map_map]
    conv => rhs; rw [← List.map_id u]
    refine List.map_congr_left fun z hz1 => ?_
    obtain ⟨z1, z2⟩ := hz z hz1
    obtain ⟨c1, c2⟩ := canon_dec (n := z.toNat) (by omega)
    show canon (Lib.decDigits z.toNat) = z
    unfold canon
    rw [if_pos c1, c2]
    omega
  rw [e] at hu
  rw [hu hA] at hv
  exact hv
def kText (u : List Int) (b : Bool) : ByteArray × Bool := if b = true then (kTxt u, true) else (⟨#[]⟩, false)
theorem text_ev {u : List Int} {b : Bool} (h1 : Ev (fun k => spec_goKinds.f k u) b) (h2 : Ev (fun k => impl_AreKinds.f k u) b) (hb : b = true → IsK u) : Ev (fun k => spec_KindsText.f k u) (kText u b) ∧ Ev (fun k => impl_KindsText.f k u) (kText u b) := by
  unfold spec_KindsText.f impl_KindsText.f kText
  cases b with
  | false =>
    refine ⟨Ev.bind h1 ?_, Ev.bind h2 ?_⟩
    · simp only [Bool.false_eq_true, if_false]; exact Ev.now _
    · simp only [Bool.false_eq_true, if_false]; exact Ev.now _
  | true =>
    have hK := hb rfl
    have hz := hK.mem
    have h5 := hK.l5
    have l1 := hK.l1
    have hsz := kTxt_size u h5 hz u.length (Nat.le_refl _)
    rw [List.take_length] at hsz
    refine ⟨Ev.bind h1 ?_, Ev.bind h2 ?_⟩
    · simp only [if_true]
      exact Ev.bind (goText_ev u l1 h5 hz) (Ev.now _)
    · simp only [if_true]
      refine Ev.bind ?_ (Ev.now _)
      have := joinNumbers_l0 u h5 hz (by omega) u.length 0 (by omega)
      simpa [impl_joinNumbers.f] using this
end Go.Proofs.YthcbaogbncakdaaGreatDoor.Pure
