/- What the printed functions of FnExactParseLeague compute answers true, at every argument of its types. No condition beside the types' own bounds. -/
import Derived.Lib.Join
import Derived.Test.YtahejnleejiobaaDoorQFnExactParseLeaguex
namespace Go.Proofs.YtahejnleejiobaaDoor.Pure
open Go.RowKit Go.Proofs.YtahejnleejiobaaDoor.QFnExactParseLeague Go.Proofs.YtahejnleejiobaaDoorW.PrintWords Go.Proofs.YtahejnleejiobaaDoorW.PrintLast Go.Proofs.YtahejnleejiobaaDoorW.PrintMore
set_option linter.unusedVariables false
set_option linter.unusedSimpArgs false
set_option linter.unusedSectionVars false

theorem ev_some {α : Type} {g : Nat → Option α} {r : α} (h : ∀ k, g (k + 1) = some r) : Ev g r := Ev.step h (Ev.now r)
theorem ev_const {α : Type} {g : Nat → Option α} {r : α} (h : ∀ k, g k = some r) : Ev g r := ⟨0, fun k _ => h k⟩
theorem wrap_id {i : Int} (h0 : -9223372036854775808 ≤ i) (h1 : i ≤ 9223372036854775807) : wrap64 i = i := by unfold wrap64; omega

/-! decimal numbers of at most six digits: what the program takes for one, and what the reference takes -/
def isD (c : UInt8) : Bool := decide (48 ≤ c.toNat ∧ c.toNat ≤ 57)
def valStep (a : Nat) (c : UInt8) : Nat := a * 10 + (c.toNat - 48)
def valF (acc : Nat) (l : List UInt8) : Nat := l.foldl valStep acc
theorem val_cons (acc : Nat) (c : UInt8) (r : List UInt8) : valF acc (c :: r) = valF (acc * 10 + (c.toNat - 48)) r := List.foldl_cons ..
theorem val_nil (acc : Nat) : valF acc [] = acc := List.foldl_nil ..
theorem val_one (c : UInt8) : valF 0 [c] = c.toNat - 48 := by rw [val_cons, val_nil, Nat.zero_mul, Nat.zero_add]
def canonOk (l : List UInt8) : Bool := decide (1 ≤ l.length ∧ l.length ≤ 6) && (!(decide (l.head? = some 48) && decide (1 < l.length)) && l.all isD)
def canon (l : List UInt8) : Int := if canonOk l = true then (valF 0 l : Int) else -1
theorem isD_iff {c : UInt8} : isD c = true ↔ 48 ≤ c.toNat ∧ c.toNat ≤ 57 := by unfold isD; exact decide_eq_true_iff
theorem val_snoc (l : List UInt8) (c : UInt8) (acc : Nat) : valF acc (l ++ [c]) = valF acc l * 10 + (c.toNat - 48) := by
  unfold valF
  rw [List.foldl_append, List.foldl_cons, List.foldl_nil]
  rfl
theorem pow_succ_le {p a b : Nat} (h : a ≤ b * 10) : a * p ≤ b * (p * 10) := by
  have := Nat.mul_le_mul_right p h
  rw [Nat.mul_assoc, Nat.mul_comm 10 p] at this
  exact this
theorem val_lt (l : List UInt8) : ∀ (acc : Nat), l.all isD = true → valF acc l + 1 ≤ (acc + 1) * 10 ^ l.length := by
  induction l with
  | nil =>
    intro acc _
    rw [List.length_nil, Nat.pow_zero, Nat.mul_one, val_nil]
    exact Nat.le_refl _
  | cons c r ih =>
    intro acc h
    rw [List.all_cons, Bool.and_eq_true] at h
    have hc := isD_iff.1 h.1
    have h1 : acc * 10 + (c.toNat - 48) + 1 ≤ (acc + 1) * 10 := by omega
    rw [val_cons, List.length_cons, Nat.pow_succ]
    exact Nat.le_trans (ih _ h.2) (pow_succ_le h1)
theorem val_ge (l : List UInt8) : ∀ acc : Nat, acc ≤ valF acc l := by
  induction l with
  | nil => intro acc; rw [val_nil]; exact Nat.le_refl _
  | cons c r ih =>
    intro acc
    have h1 : acc ≤ acc * 10 + (c.toNat - 48) := by omega
    rw [val_cons]
    exact Nat.le_trans h1 (ih _)
theorem pow_le6 {n : Nat} (h : n ≤ 6) : 10 ^ n ≤ 1000000 := Nat.pow_le_pow_right (by omega) h
theorem canonOk_parts {l : List UInt8} (h : canonOk l = true) : (1 ≤ l.length ∧ l.length ≤ 6) ∧ (l.head? = some 48 → l.length = 1) ∧ l.all isD = true := by
  unfold canonOk at h
  rw [Bool.and_eq_true, Bool.and_eq_true] at h
  obtain ⟨h1, h2, h3⟩ := h
  have h1' := of_decide_eq_true h1
  refine ⟨h1', fun e => ?_, h3⟩
  rw [decide_eq_true e, Bool.true_and] at h2
  have : ¬ 1 < l.length := by simpa using h2
  omega
theorem val_small {l : List UInt8} (h : canonOk l = true) : valF 0 l ≤ 999999 := by
  obtain ⟨h1, _, h3⟩ := canonOk_parts h
  have h2 := val_lt l 0 h3
  have := pow_le6 h1.2
  omega
theorem dig_back {c : UInt8} (h : isD c = true) : UInt8.ofNat (48 + (c.toNat - 48)) = c := by
  have := isD_iff.1 h
  rw [show 48 + (c.toNat - 48) = c.toNat by omega]
  exact UInt8.ofNat_toNat
theorem parse_ok (l : List UInt8) : ∀ (acc : Nat), l.all isD = true → (acc + 1) * 10 ^ l.length ≤ 1000000000000 → Lib.parseUint10 acc l = .ok (valF acc l) := by
  induction l with
  | nil => intro acc _ _; rw [val_nil]; rfl
  | cons c r ih =>
    intro acc h hb
    rw [List.all_cons, Bool.and_eq_true] at h
    have hc := isD_iff.1 h.1
    rw [List.length_cons, Nat.pow_succ] at hb
    have h1 : (acc * 10 + (c.toNat - 48) + 1) * 10 ^ r.length ≤ (acc + 1) * (10 ^ r.length * 10) := pow_succ_le (by omega)
    have h5 : acc * 10 + (c.toNat - 48) + 1 ≤ (acc * 10 + (c.toNat - 48) + 1) * 10 ^ r.length := Nat.le_mul_of_pos_right _ (Nat.pow_pos (by omega))
    have h6 : acc * 10 + (c.toNat - 48) + 1 ≤ 1000000000000 := Nat.le_trans h5 (Nat.le_trans h1 hb)
    simp only [Lib.parseUint10]
    rw [if_pos hc, if_neg (by omega), if_neg (by omega), val_cons]
    exact ih _ h.2 (Nat.le_trans h1 hb)
theorem atoi_canon {l : List UInt8} (h : canonOk l = true) : Lib.atoiAll l = .ok (valF 0 l : Int) := by
  obtain ⟨h1, _, h3⟩ := canonOk_parts h
  have hs := val_small h
  have hp : Lib.parseUint10 0 l = .ok (valF 0 l) := parse_ok l 0 h3 (by have := pow_le6 h1.2; omega)
  cases l with
  | nil => simp at h1
  | cons c r =>
    rw [List.all_cons, Bool.and_eq_true] at h3
    have hc := isD_iff.1 h3.1
    unfold Lib.atoiAll
    simp only
    rw [if_neg (by omega)]
    unfold Lib.parseMag
    rw [if_neg (by simp), hp]
    simp only
    rw [if_neg (by omega), if_neg (by omega), if_neg (by omega)]
theorem dec_val : ∀ (n : Nat) (l : List UInt8), l.length = n → l ≠ [] → l.all isD = true → (l.head? = some 48 → l.length = 1) → Lib.decDigits (valF 0 l) = l := by
  intro n
  induction n with
  | zero => intro l hl hne; exact absurd (List.length_eq_zero_iff.1 hl) hne
  | succ n ih =>
    intro l hl hne hd hz
    obtain ⟨p, c, rfl⟩ : ∃ p c, l = p ++ [c] := ⟨l.dropLast, l.getLast hne, (List.dropLast_concat_getLast hne).symm⟩
    rw [List.all_append, Bool.and_eq_true] at hd
    have hc1 : isD c = true := by simpa using hd.2
    have hc := isD_iff.1 hc1
    rw [val_snoc]
    cases p with
    | nil =>
      rw [List.nil_append, val_nil, Nat.zero_mul, Nat.zero_add, Lib.decDigits_one (by omega), dig_back hc1]
    | cons x xs =>
      have hx : x ≠ 48 := by
        rintro rfl
        have := hz rfl
        simp at this
      have hxd : isD x = true := by rw [List.all_cons, Bool.and_eq_true] at hd; exact hd.1.1
      have hxn := isD_iff.1 hxd
      have hx49 : 49 ≤ x.toNat := by
        rcases Nat.lt_or_ge 48 x.toNat with q | q
        · exact q
        · exact absurd (UInt8.toNat_inj.1 (by rw [show x.toNat = 48 by omega]; rfl)) hx
      have hv : 1 ≤ valF 0 (x :: xs) := by
        have := val_ge xs (0 * 10 + (x.toNat - 48))
        rw [val_cons]
        omega
      have hr := ih (x :: xs) (by simp at hl ⊢; omega) (by simp) hd.1 (fun e => by simp at e; exact absurd e hx)
      generalize valF 0 (x :: xs) = v at hv hr
      rw [Lib.decDigits, dif_neg (by omega), show (v * 10 + (c.toNat - 48)) / 10 = v by omega, show (v * 10 + (c.toNat - 48)) % 10 = c.toNat - 48 by omega, hr, dig_back hc1]
theorem dec_canon {l : List UInt8} (h : canonOk l = true) : Lib.decDigits (valF 0 l) = l := by
  obtain ⟨h1, h2, h3⟩ := canonOk_parts h
  exact dec_val l.length l rfl (by rintro rfl; simp at h1) h3 h2
theorem dig_of {d : Nat} (h : d < 10) : isD (UInt8.ofNat (48 + d)) = true ∧ (UInt8.ofNat (48 + d)).toNat - 48 = d ∧ (1 ≤ d → UInt8.ofNat (48 + d) ≠ 48) := by
  have e : (UInt8.ofNat (48 + d)).toNat = 48 + d := by rw [UInt8.toNat_ofNat']; omega
  refine ⟨isD_iff.2 (by omega), by omega, fun hd q => ?_⟩
  rw [q] at e
  have : (48 : UInt8).toNat = 48 := rfl
  omega
theorem dec_facts (n : Nat) : (Lib.decDigits n) ≠ [] ∧ (Lib.decDigits n).all isD = true ∧ valF 0 (Lib.decDigits n) = n ∧ (1 ≤ n → (Lib.decDigits n).head? ≠ some 48 ∧ 10 ^ ((Lib.decDigits n).length - 1) ≤ n) ∧ (n = 0 → (Lib.decDigits n).length = 1) := by
  induction n using Nat.strongRecOn with
  | ind n ih =>
    by_cases h : n < 10
    · obtain ⟨d1, d2, d3⟩ := dig_of h
      rw [Lib.decDigits_one h]
      refine ⟨by simp, by rw [List.all_cons, d1]; rfl, by rw [val_one]; exact d2, fun h1 => ⟨fun q => d3 h1 (by simpa using q), by simpa using h1⟩, fun _ => rfl⟩
    · obtain ⟨i1, i2, i3, i4, _⟩ := ih (n / 10) (by omega)
      obtain ⟨d1, d2, d3⟩ := dig_of (show n % 10 < 10 by omega)
      rw [Lib.decDigits, dif_neg h]
      obtain ⟨j1, j2⟩ := i4 (by omega)
      have hl : 1 ≤ (Lib.decDigits (n / 10)).length := by
        cases hh : Lib.decDigits (n / 10) with
        | nil => exact absurd hh i1
        | cons _ _ => simp
      refine ⟨by simp, by rw [List.all_append, i2, List.all_cons, d1]; rfl, by rw [val_snoc, i3, d2]; omega, fun _ => ⟨?_, ?_⟩, fun q => by omega⟩
      · cases hh : Lib.decDigits (n / 10) with
        | nil => exact absurd hh i1
        | cons x xs =>
          rw [hh] at j1
          simpa using j1
      · rw [List.length_append, List.length_singleton, Nat.add_sub_cancel]
        obtain ⟨m, hm⟩ : ∃ m, (Lib.decDigits (n / 10)).length = m + 1 := ⟨_, (Nat.sub_add_cancel hl).symm⟩
        rw [hm] at j2 ⊢
        rw [Nat.add_sub_cancel] at j2
        rw [Nat.pow_succ]
        omega
theorem canon_dec {n : Nat} (h : n ≤ 999999) : canonOk (Lib.decDigits n) = true ∧ valF 0 (Lib.decDigits n) = n := by
  obtain ⟨i1, i2, i3, i4, i5⟩ := dec_facts n
  refine ⟨?_, i3⟩
  have hl : 1 ≤ (Lib.decDigits n).length := by
    cases hh : Lib.decDigits n with
    | nil => exact absurd hh i1
    | cons _ _ => simp
  unfold canonOk
  rw [i2, Bool.and_true, Bool.and_eq_true]
  rcases Nat.eq_zero_or_pos n with h0 | h0
  · have := i5 h0
    exact ⟨decide_eq_true (by omega), by rw [decide_eq_false (p := 1 < _) (by omega), Bool.and_false]; rfl⟩
  · obtain ⟨j1, j2⟩ := i4 h0
    have h6 : (Lib.decDigits n).length ≤ 6 := by
      rcases Nat.lt_or_ge 6 (Lib.decDigits n).length with q | q
      · have := Nat.pow_le_pow_right (n := 10) (by omega) (show 6 ≤ (Lib.decDigits n).length - 1 by omega)
        omega
      · exact q
    exact ⟨decide_eq_true ⟨hl, h6⟩, by rw [decide_eq_false j1]; rfl⟩
/-- What impl.number answers. -/
theorem number_eq (s : ByteArray) (most : Int) (h0 : 0 ≤ most) (h1 : most ≤ 999999) : number.v s most = if 0 ≤ canon s.data.toList ∧ canon s.data.toList ≤ most then (canon s.data.toList, true) else (0, false) := by
  unfold canon
  by_cases c : canonOk s.data.toList = true
  · rw [if_pos c]
    have hs := val_small c
    unfold number.v
    rw [atoi_canon c]
    have hi : Lib.itoa ((valF 0 s.data.toList : Nat) : Int) = s.data.toList := by
      rw [show Lib.itoa ((valF 0 s.data.toList : Nat) : Int) = Lib.decDigits (valF 0 s.data.toList) by unfold Lib.itoa; rw [if_neg (by omega)]; simp]
      exact dec_canon c
    simp only [hi, true_and]
  · rw [if_neg c, if_neg (by omega)]
    unfold number.v
    split
    · rename_i v hv
      refine if_neg ?_
      rintro ⟨q1, q2, q3⟩
      apply c
      have e : Lib.itoa v = Lib.decDigits v.toNat := by unfold Lib.itoa; rw [if_neg (by omega)]
      rw [← q1, e]
      exact (canon_dec (by omega)).1
    · rfl
theorem bt_list (s : ByteArray) (i : Nat) (h : i < s.size) : bt s (i : Int) = ((s.data.toList[i]'(by rw [Array.length_toList]; exact h)).toNat : Int) := by
  unfold bt
  rw [dif_pos (by simpa using h)]
  simp
  rfl
theorem size_list (s : ByteArray) : s.data.toList.length = s.size := Array.length_toList
theorem l1In_eq (a b c : Int) : spec_l1In.f a b c = some (decide (b ≤ a ∧ a ≤ c)) := by
  unfold spec_l1In.f
  by_cases h : a ≥ b
  · rw [if_pos h]; congr 1; simp only [decide_eq_decide]; omega
  · rw [if_neg h]; congr 1; exact (decide_eq_false (by omega)).symm
theorem read_l0 (s : ByteArray) (hs : s.size ≤ 6) (d : Nat) : ∀ (i acc : Nat), i + d = s.size → (acc + 1) * 10 ^ d ≤ 1000000 →
    Ev (fun k => spec_l1Read.l0 k s (acc : Int) (i : Int)) (if (s.data.toList.drop i).all isD = true then (valF acc (s.data.toList.drop i) : Int) else -1) := by
  induction d with
  | zero =>
    intro i acc hi _
    refine ev_some fun k => ?_
    simp only [spec_l1Read.l0]
    rw [if_neg (by omega), List.drop_of_length_le (by rw [size_list]; omega), val_nil]
    rfl
  | succ d ih =>
    intro i acc hi hb
    have hlt : i < s.size := by omega
    have hll : i < s.data.toList.length := by rw [size_list]; exact hlt
    have hbt := bt_list s i hlt
    rw [List.drop_eq_getElem_cons hll, List.all_cons]
    by_cases c : isD s.data.toList[i] = true
    · have hc := isD_iff.1 c
      rw [Nat.pow_succ] at hb
      have h1 : (acc * 10 + (s.data.toList[i].toNat - 48) + 1) * 10 ^ d ≤ (acc + 1) * (10 ^ d * 10) := pow_succ_le (by omega)
      have h5 : acc * 10 + (s.data.toList[i].toNat - 48) + 1 ≤ (acc * 10 + (s.data.toList[i].toNat - 48) + 1) * 10 ^ d := Nat.le_mul_of_pos_right _ (Nat.pow_pos (by omega))
      have h6 : acc * 10 + (s.data.toList[i].toNat - 48) + 1 ≤ 1000000 := Nat.le_trans h5 (Nat.le_trans h1 hb)
      rw [c, Bool.true_and]
      refine Ev.step (fun k => ?_) (ih (i + 1) (acc * 10 + (s.data.toList[i].toNat - 48)) (by omega) (Nat.le_trans h1 hb))
      simp only [spec_l1Read.l0]
      rw [if_pos (by omega), if_pos (by omega), hbt, if_neg (by omega), if_neg (by omega), wrap_id (i := 10 * (acc : Int)) (by omega) (by omega), wrap_id (i := (i : Int) + 1) (by omega) (by omega),
        show ((s.data.toList[i].toNat : Int) - 48) % 256 = (s.data.toList[i].toNat : Int) - 48 from Int.emod_eq_of_lt (by omega) (by omega), wrap_id (by omega) (by omega)]
      congr 1
      omega
    · have hc : ¬ (48 ≤ s.data.toList[i].toNat ∧ s.data.toList[i].toNat ≤ 57) := fun q => c (isD_iff.2 q)
      rw [show isD s.data.toList[i] = false by simpa using c, Bool.false_and]
      refine ev_some fun k => ?_
      simp only [spec_l1Read.l0]
      rw [if_pos (by omega), if_pos (by omega), hbt]
      by_cases q : (s.data.toList[i].toNat : Int) < 48
      · rw [if_pos q]; rfl
      · rw [if_neg q, if_pos (by omega)]; rfl
theorem read_ev (s : ByteArray) (hs : s.size ≤ 9223372036854775807) : Ev (fun k => spec_l1Read.f k s) (canon s.data.toList) := by
  unfold spec_l1Read.f
  simp only [l1In_eq, Option.bind_some]
  have bad : Ev (fun k => spec_l1Read.j0 k s true) (-1) := ev_some fun k => by simp [spec_l1Read.j0]
  have good : s.size ≤ 6 → Ev (fun k => spec_l1Read.j0 k s false) (if s.data.toList.all isD = true then (valF 0 s.data.toList : Int) else -1) := fun h6 => by
    refine Ev.step (f := fun k => spec_l1Read.l0 k s 0 0) (fun k => by simp [spec_l1Read.j0]) ?_
    have := read_l0 s h6 s.size 0 0 (by omega) (by have := pow_le6 h6; omega)
    simpa using this
  unfold canon canonOk
  rw [size_list]
  by_cases c : 1 ≤ s.size ∧ s.size ≤ 6
  · rw [decide_eq_true (p := 1 ≤ s.size ∧ s.size ≤ 6) c, show decide ((1 : Int) ≤ (s.size : Int) ∧ (s.size : Int) ≤ 6) = true from decide_eq_true (by omega), Bool.true_and]
    simp only [if_true]
    have hb := bt_list s 0 (by omega)
    have hh : s.data.toList.head? = some (s.data.toList[0]'(by rw [size_list]; omega)) := List.head?_eq_getElem? .. |>.trans (List.getElem?_eq_getElem _)
    rw [hh]
    simp only [if_pos (show (0 : Int) < (s.size : Int) by omega), show bt s 0 = _ from hb]
    by_cases z : s.data.toList[0]'(by rw [size_list]; omega) = 48
    · rw [z]
      simp only [show ((48 : UInt8).toNat : Int) = 48 from rfl, if_true, decide_true, Bool.true_and]
      by_cases o : 1 < s.size
      · rw [show decide ((s.size : Int) > 1) = true from decide_eq_true (by omega), decide_eq_true o]
        exact bad
      · rw [show decide ((s.size : Int) > 1) = false from decide_eq_false (by omega), decide_eq_false o]
        simpa using good c.2
    · have zn : ¬ (((s.data.toList[0]'(by rw [size_list]; omega)).toNat : Int) = 48) := fun q => z (UInt8.toNat_inj.1 (by have : (48 : UInt8).toNat = 48 := rfl; omega))
      simp only [if_neg zn]
      rw [show decide (some (s.data.toList[0]'(by rw [size_list]; omega)) = some 48) = false from decide_eq_false (fun q => z (Option.some.inj q))]
      simpa using good c.2
  · rw [decide_eq_false (p := 1 ≤ s.size ∧ s.size ≤ 6) c, show decide ((1 : Int) ≤ (s.size : Int) ∧ (s.size : Int) ≤ 6) = false from decide_eq_false (by omega), Bool.false_and]
    simpa using bad
/-! words between signs -/
def spl (b : UInt8) (cur : List UInt8) : List UInt8 → List (List UInt8)
  | [] => [cur]
  | c :: r => if c = b then cur :: spl b [] r else spl b (cur ++ [c]) r
def mkB (l : List UInt8) : ByteArray := ⟨l.toArray⟩
theorem mkB_data (l : List UInt8) : (mkB l).data.toList = l := by simp [mkB]
theorem mkB_size (l : List UInt8) : (mkB l).size = l.length := by rw [← size_list, mkB_data]
theorem ba_ext {a b : ByteArray} (h : a.data.toList = b.data.toList) : a = b := by
  apply ByteArray.ext
  exact Array.toList_inj.1 h
theorem mkB_of (s : ByteArray) : mkB s.data.toList = s := ba_ext (mkB_data _)
theorem extr (s : ByteArray) (f i : Nat) : s.extract f i = mkB ((s.data.toList.drop f).take (i - f)) := ba_ext (by rw [Lib.extract_data, mkB_data])
theorem split_l0 (s : ByteArray) (hs : s.size ≤ 1048576) (b : UInt8) (d : Nat) : ∀ (i f : Nat) (out : List ByteArray), i + d = s.size → f ≤ i → out.length ≤ i →
    Ev (fun k => spec_l1Split.l0 k s (b.toNat : Int) out (f : Int) (i : Int)) (out ++ (spl b ((s.data.toList.drop f).take (i - f)) (s.data.toList.drop i)).map mkB) := by
  induction d with
  | zero =>
    intro i f out hi hf ho
    refine ev_some fun k => ?_
    simp only [spec_l1Split.l0]
    rw [if_neg (by omega), if_pos (by omega), if_pos (by omega), if_pos (by omega), List.drop_of_length_le (i := i) (by rw [size_list]; omega)]
    rw [show (f : Int).toNat = f from rfl, extr, show i = s.size by omega]
    rfl
  | succ d ih =>
    intro i f out hi hf ho
    have hlt : i < s.size := by omega
    have hll : i < s.data.toList.length := by rw [size_list]; exact hlt
    have hbt := bt_list s i hlt
    rw [List.drop_eq_getElem_cons hll]
    have hw : wrap64 ((i : Int) + 1) = ((i + 1 : Nat) : Int) := by rw [wrap_id (by omega) (by omega)]; omega
    by_cases c : s.data.toList[i] = b
    · rw [spl, if_pos c, List.map_cons]
      have := ih (i + 1) (i + 1) (out ++ [mkB ((s.data.toList.drop f).take (i - f))]) (by omega) (by omega) (by simp; omega)
      rw [show i + 1 - (i + 1) = 0 by omega, List.take_zero, List.append_assoc] at this
      refine Ev.step (fun k => ?_) this
      simp only [spec_l1Split.l0]
      rw [if_pos (by omega), if_pos (by omega), hbt, c, if_pos rfl, if_pos (by omega), if_pos (by omega), if_pos (by omega), if_pos (by omega), hw, show (f : Int).toNat = f from rfl, show (i : Int).toNat = i from rfl, extr]
    · rw [spl, if_neg c]
      have := ih (i + 1) f out (by omega) (by omega) (by omega)
      have e : (s.data.toList.drop f).take (i + 1 - f) = (s.data.toList.drop f).take (i - f) ++ [s.data.toList[i]] := by
        rw [show i + 1 - f = (i - f) + 1 by omega, List.take_add_one, List.getElem?_drop, show f + (i - f) = i by omega, List.getElem?_eq_getElem hll]
        rfl
      rw [e] at this
      refine Ev.step (fun k => ?_) this
      simp only [spec_l1Split.l0]
      rw [if_pos (by omega), if_pos (by omega), hbt, if_neg (fun q => c (UInt8.toNat_inj.1 (by omega))), hw]
theorem split_ev (s : ByteArray) (hs : s.size ≤ 1048576) (b : UInt8) : Ev (fun k => spec_l1Split.f k s (b.toNat : Int)) ((spl b [] s.data.toList).map mkB) := by
  have := split_l0 s hs b s.size 0 0 [] (by omega) (by omega) (by simp)
  simpa [spec_l1Split.f] using this

/-! strings.Cut at one sign -/
def cutL (b : UInt8) : List UInt8 → List UInt8 × List UInt8 × Bool
  | [] => ([], [], false)
  | c :: r => if c = b then ([], r, true) else (c :: (cutL b r).1, (cutL b r).2.1, (cutL b r).2.2)
theorem cutL_no (b : UInt8) (s : List UInt8) : (cutL b s).2.2 = false → (cutL b s).1 = s ∧ (cutL b s).2.1 = [] := by
  induction s with
  | nil => intro _; exact ⟨rfl, rfl⟩
  | cons c r ih =>
    intro h
    unfold cutL at h ⊢
    by_cases e : c = b
    · rw [if_pos e] at h; cases h
    · rw [if_neg e] at h ⊢
      obtain ⟨h1, h2⟩ := ih h
      exact ⟨by rw [h1], h2⟩
theorem index_one (b : UInt8) (s : List UInt8) : Lib.index s [b] = if (cutL b s).2.2 = true then (((cutL b s).1).length : Int) else -1 := by
  induction s with
  | nil => rfl
  | cons c r ih =>
    have hp : List.isPrefixOf [b] (c :: r) = (b == c) := by simp [List.isPrefixOf]
    unfold Lib.index cutL
    rw [hp, ih]
    by_cases e : c = b
    · subst e
      simp
    · have e2 : (b == c) = false := beq_eq_false_iff_ne.2 (fun q => e q.symm)
      rw [e2, if_neg e]
      simp only [Bool.false_eq_true, if_false]
      cases (cutL b r).2.2 with
      | false => simp
      | true =>
        simp only [if_true]
        rw [if_neg (by first | (simp; done) | (simp; omega))]
        simp
theorem cut_join (b : UInt8) (s : List UInt8) : (cutL b s).2.2 = true → s = (cutL b s).1 ++ b :: (cutL b s).2.1 := by
  induction s with
  | nil => intro h; cases h
  | cons c r ih =>
    intro h
    unfold cutL at h ⊢
    by_cases e : c = b
    · rw [if_pos e]; subst e; rfl
    · rw [if_neg e] at h ⊢
      have := ih h
      show c :: r = c :: ((cutL b r).1 ++ b :: (cutL b r).2.1)
      rw [← this]
theorem cut_eq (b : UInt8) (s : List UInt8) : Lib.cut s [b] = cutL b s := by
  unfold Lib.cut
  rw [index_one]
  cases h : (cutL b s).2.2 with
  | false =>
    obtain ⟨h1, h2⟩ := cutL_no b s h
    simp only [Bool.false_eq_true, if_false]
    rw [if_neg (by omega)]
    refine Prod.ext h1.symm (Prod.ext h2.symm h.symm)
  | true =>
    have hj := cut_join b s h
    simp only [if_true]
    rw [if_pos (by omega)]
    have hg : ∀ p q : List UInt8, s = p ++ b :: q → s.take p.length = p ∧ s.drop (p.length + 1) = q := by
      rintro p q rfl
      exact ⟨by simp, by rw [List.drop_append]; simp⟩
    obtain ⟨g1, g2⟩ := hg _ _ hj
    exact Prod.ext g1 (Prod.ext g2 h.symm)
theorem cut_sizes (b : UInt8) (s : List UInt8) : (cutL b s).1.length ≤ s.length ∧ (cutL b s).2.1.length ≤ s.length := by
  cases h : (cutL b s).2.2 with
  | false => obtain ⟨h1, h2⟩ := cutL_no b s h; rw [h1, h2]; simp
  | true =>
    have hj := congrArg List.length (cut_join b s h)
    simp only [List.length_append, List.length_cons] at hj
    omega
theorem cut_first (b : UInt8) (s : List UInt8) : b ∉ (cutL b s).1 := by
  induction s with
  | nil => simp [cutL]
  | cons c r ih =>
    unfold cutL
    by_cases e : c = b
    · rw [if_pos e]; simp
    · rw [if_neg e]
      intro q
      rcases List.mem_cons.1 q with q | q
      · exact e q.symm
      · exact ih q
theorem spl_cut (b : UInt8) (s : List UInt8) : ∀ cur, spl b cur s = if (cutL b s).2.2 = true then (cur ++ (cutL b s).1) :: spl b [] (cutL b s).2.1 else [cur ++ s] := by
  induction s with
  | nil => intro cur; simp [spl, cutL]
  | cons c r ih =>
    intro cur
    rw [show spl b cur (c :: r) = if c = b then cur :: spl b [] r else spl b (cur ++ [c]) r from rfl, show cutL b (c :: r) = if c = b then ([], r, true) else (c :: (cutL b r).1, (cutL b r).2.1, (cutL b r).2.2) from rfl]
    by_cases e : c = b
    · rw [if_pos e, if_pos e]; simp
    · rw [if_neg e, if_neg e, ih]
      simp only [List.append_assoc, List.singleton_append]
theorem canon_sign {l : List UInt8} {b : UInt8} (hb : isD b = false) (h : b ∈ l) : canon l = -1 := by
  unfold canon
  refine if_neg fun c => ?_
  obtain ⟨_, _, h3⟩ := canonOk_parts c
  rw [List.all_eq_true.1 h3 b h] at hb
  cases hb
theorem cut_mem {b : UInt8} {l : List UInt8} (h : (cutL b l).2.2 = true) : b ∈ l := by
  have := cut_join b l h
  rw [this]
  simp
theorem cut_not_mem {b : UInt8} {l : List UInt8} (h : b ∉ l) : cutL b l = (l, [], false) := by
  have h2 : (cutL b l).2.2 = false := by
    cases q : (cutL b l).2.2 with
    | false => rfl
    | true => exact absurd (cut_mem q) h
  obtain ⟨h3, h4⟩ := cutL_no b l h2
  exact Prod.ext h3 (Prod.ext h4 h2)
theorem canon_le (l : List UInt8) : -1 ≤ canon l ∧ canon l ≤ 999999 := by
  unfold canon
  split
  · rename_i h
    have := val_small h
    omega
  · omega
def numV (most : Int) (l : List UInt8) : Int × Bool := if 0 ≤ canon l ∧ canon l ≤ most then (canon l, true) else (0, false)
theorem number_f (l : List UInt8) (hl : l.length ≤ 1048576) (most : Int) (h0 : 0 ≤ most) (h1 : most ≤ 999999) : impl_number.f (mkB l) most = some (numV most l) := by
  unfold impl_number.f
  rw [if_pos (by rw [mkB_size]; exact hl), number_eq _ _ h0 h1, mkB_data]
  rfl
theorem dec_of_canon {l : List UInt8} (h : 0 ≤ canon l) : l = Lib.decDigits (canon l).toNat ∧ canonOk l = true := by
  unfold canon at h ⊢
  by_cases c : canonOk l = true
  · rw [if_pos c]
    exact ⟨(dec_canon c).symm, c⟩
  · rw [if_neg c] at h
    omega

theorem cut_f (s : List UInt8) (hs : s.length ≤ 1048576) (b : UInt8) : strings_Cut.f (mkB s) ⟨#[b]⟩ = some (mkB (cutL b s).1, mkB (cutL b s).2.1, (cutL b s).2.2) := by
  unfold strings_Cut.f
  rw [if_pos (by rw [mkB_size]; exact hs), mkB_data]
  rw [show (⟨#[b]⟩ : ByteArray).data.toList = [b] from rfl, cut_eq]
  rfl

/-! strings.Split at one sign -/
theorem splitK_spl (b : UInt8) : ∀ (n : Nat) (s : List UInt8), s.length + 1 ≤ n → Lib.splitK [b] 0 (Lib.countFrom [b] n s) s = spl b [] s := by
  intro n
  induction n with
  | zero => intro s h; omega
  | succ n ih =>
    intro s h
    rw [spl_cut, List.nil_append, List.nil_append]
    have hi := index_one b s
    unfold Lib.countFrom
    cases ho : (cutL b s).2.2 with
    | false =>
      rw [ho] at hi
      simp only [Bool.false_eq_true, if_false] at hi ⊢
      rw [hi, if_pos (by rfl)]
      rfl
    | true =>
      rw [ho] at hi
      simp only [if_true] at hi ⊢
      have hj := cut_join b s ho
      have hg : ∀ p q : List UInt8, s = p ++ b :: q → s.take p.length = p ∧ s.drop (p.length + 1) = q ∧ q.length + 1 ≤ s.length := by
        rintro p q rfl
        exact ⟨by simp, by rw [List.drop_append]; simp, by rw [List.length_append, List.length_cons]; omega⟩
      obtain ⟨g1, g2, g3⟩ := hg _ _ hj
      have hne : ¬ (Lib.index s [b] == -1) = true := fun q => by have := beq_iff_eq.1 q; omega
      have ht : (Lib.index s [b]).toNat = (cutL b s).1.length := by rw [hi]; rfl
      rw [if_neg hne, Nat.add_comm 1]
      unfold Lib.splitK
      rw [if_neg hne, ht]
      simp only [List.length_cons, List.length_nil, Nat.zero_add, Nat.add_zero]
      rw [g1, g2, ih _ (by omega)]
theorem map_mkB (xs : List ByteArray) (ws : List (List UInt8)) (h : xs.map (·.data.toList) = ws) : xs = ws.map mkB := by
  rw [← h, List.map_map]
  have : (mkB ∘ fun x : ByteArray => x.data.toList) = id := by funext x; exact mkB_of x
  rw [this, List.map_id]
theorem split_f (s : List UInt8) (hs : s.length ≤ 1048576) (b : UInt8) : strings_Split.f (mkB s) ⟨#[b]⟩ = some ((spl b [] s).map mkB) := by
  unfold strings_Split.f
  rw [if_pos ⟨by rw [mkB_size]; exact hs, Nat.le_refl 1⟩]
  congr 1
  apply map_mkB
  rw [Lib.splitB_data]
  unfold Lib.countB Lib.count
  rw [mkB_data]
  exact splitK_spl b _ s (Nat.le_refl _)
theorem spl_sizes (b : UInt8) (s : List UInt8) : ∀ cur, (∀ w ∈ spl b cur s, w.length ≤ cur.length + s.length) ∧ (spl b cur s).length ≤ s.length + 1 ∧ 1 ≤ (spl b cur s).length := by
  induction s with
  | nil => intro cur; simp [spl]
  | cons c r ih =>
    intro cur
    rw [show spl b cur (c :: r) = if c = b then cur :: spl b [] r else spl b (cur ++ [c]) r from rfl]
    by_cases e : c = b
    · rw [if_pos e]
      obtain ⟨i1, i2, i3⟩ := ih []
      refine ⟨fun w hw => ?_, by simp; omega, by simp⟩
      rcases List.mem_cons.1 hw with rfl | hw
      · simp
      · have := i1 w hw; simp at this ⊢; omega
    · rw [if_neg e]
      obtain ⟨i1, i2, i3⟩ := ih (cur ++ [c])
      refine ⟨fun w hw => ?_, by simp; omega, i3⟩
      have := i1 w hw; simp at this ⊢; omega
theorem spl_join (b : UInt8) (s : List UInt8) : ∀ cur, Lib.join (spl b cur s) [b] = cur ++ s := by
  induction s with
  | nil => intro cur; simp [spl, Lib.join_one]
  | cons c r ih =>
    intro cur
    rw [show spl b cur (c :: r) = if c = b then cur :: spl b [] r else spl b (cur ++ [c]) r from rfl]
    by_cases e : c = b
    · rw [if_pos e]
      have h := ih []
      have hl := (spl_sizes b r []).2.2
      cases hx : spl b [] r with
      | nil => rw [hx] at hl; simp at hl
      | cons y ys =>
        rw [hx] at h
        rw [Lib.join_cons] at h ⊢
        rw [show Lib.joinTail [b] (y :: ys) = [b] ++ (y ++ Lib.joinTail [b] ys) by simp [Lib.joinTail]]
        rw [h, e]
        simp
    · rw [if_neg e, ih]
      simp

theorem rdB (l : List S53) (n : Nat) (h : n < l.length) : rd_T53 l (n : Int) = l[n] := by
  unfold rd_T53
  simp [List.getD_eq_getElem?_getD, List.getElem?_eq_getElem h]

theorem eqResultS_l0 (L : List S53) (hl : L.length ≤ 1048576) (d : Nat) : ∀ i : Nat, i + d = L.length → Ev (fun k => laws_eqResultS.l0 k L L (i : Int)) true := by
  induction d with
  | zero =>
    intro i hi
    refine ev_some fun k => ?_
    simp only [laws_eqResultS.l0]
    rw [if_neg (by omega)]
  | succ d ih =>
    intro i hi
    refine Ev.step (f := fun k => laws_eqResultS.l0 k L L ((i + 1 : Nat) : Int)) (fun k => ?_) (ih (i + 1) (by omega))
    simp only [laws_eqResultS.l0]
    rw [if_pos (by omega), if_pos (by omega), if_pos (by omega)]
    have e : ∀ a b c d : Int, laws_eqResult.f a b c d a b c d = some true := fun a b c d => by simp [laws_eqResult.f]
    rw [e, wrap_id (by omega) (by omega)]
    rfl
theorem eqResultS_ev (L : List S53) (hl : L.length ≤ 1048576) : Ev (fun k => laws_eqResultS.f k L L) true := by
  refine Ev.congr (f := fun k => laws_eqResultS.l0 k L L ((0 : Nat) : Int)) (fun k => ?_) (eqResultS_l0 L hl L.length 0 (by omega))
  unfold laws_eqResultS.f
  rw [if_pos rfl]
  rfl
theorem eqLeague_ev (a b : Int) (L : List S53) (hl : L.length ≤ 1048576) : Ev (fun k => laws_eqLeague.f k a b L a b L) true := by
  refine Ev.congr (f := fun k => (laws_eqResultS.f k L L).bind fun t => if t = true then some true else some false) (fun k => ?_) (Ev.bind (f := fun _ t => if t = true then some true else some false) (eqResultS_ev L hl) (Ev.now _))
  unfold laws_eqLeague.f
  rw [if_pos rfl, if_pos rfl]

/-! what a good league is -/
def okR (T : Int) (r : S53) : Bool := decide (0 ≤ r.f0 ∧ r.f0 ≤ T - 1) && (decide (0 ≤ r.f1 ∧ r.f1 ≤ T - 1) && (!decide (r.f0 = r.f1) && (decide (0 ≤ r.f2 ∧ r.f2 ≤ 20) && decide (0 ≤ r.f3 ∧ r.f3 ≤ 20))))
def seenB (L : List S53) (i : Nat) (x y : Int) : Bool := (L.take i).any fun s => decide (s.f0 = x ∧ s.f1 = y)
def goodFrom (T : Int) (L : List S53) : Nat → Nat → Bool
  | _, 0 => true
  | i, d + 1 => okR T (L.getD i z53) && (!seenB L i (L.getD i z53).f0 (L.getD i z53).f1 && goodFrom T L (i + 1) d)
def goodB (a b : Int) (L : List S53) : Bool := decide (2 ≤ a ∧ a ≤ 8) && (decide (2 ≤ b ∧ b ≤ 3) && (!decide ((L.length : Int) > 56) && goodFrom a L 0 L.length))

theorem lgResult_eq (T : Int) (hT : 2 ≤ T ∧ T ≤ 8) (r : S53) : spec_lgResult.f T r.f0 r.f1 r.f2 r.f3 = some (okR T r) := by
  unfold spec_lgResult.f okR
  simp only [l1In_eq, wrap_id (i := T - 1) (by omega) (by omega), Option.bind_some]
  by_cases h2 : r.f0 = r.f1
  · cases decide (0 ≤ r.f0 ∧ r.f0 ≤ T - 1) <;> cases decide (0 ≤ r.f1 ∧ r.f1 ≤ T - 1) <;> cases decide (0 ≤ r.f2 ∧ r.f2 ≤ 20) <;> cases decide (0 ≤ r.f3 ∧ r.f3 ≤ 20) <;> simp [h2]
  · cases decide (0 ≤ r.f0 ∧ r.f0 ≤ T - 1) <;> cases decide (0 ≤ r.f1 ∧ r.f1 ≤ T - 1) <;> cases decide (0 ≤ r.f2 ∧ r.f2 ≤ 20) <;> cases decide (0 ≤ r.f3 ∧ r.f3 ≤ 20) <;> simp [h2]

theorem lgGood_l1 (L : List S53) (n a b : Int) (i : Nat) (hi : i < 1048576) (y : List S53) (x0 x1 x2 x3 : Int) (res : Bool) (hy : y.length ≤ 1048576) (hk : Ev (fun k => spec_lgGood.l0 k L n ((i + 1 : Nat) : Int) a b L) res) (d : Nat) :
    ∀ j : Nat, j + d = y.length → Ev (fun k => spec_lgGood.l1 k L n (i : Int) y (y.length : Int) (j : Int) a b L x0 x1 x2 x3) (!(y.drop j).any (fun s => decide (s.f0 = x0 ∧ s.f1 = x1)) && res) := by
  induction d with
  | zero =>
    intro j hj
    rw [List.drop_eq_nil_of_le (by omega)]
    simp only [List.any_nil, Bool.not_false, Bool.true_and]
    refine Ev.step (f := fun k => spec_lgGood.l0 k L n ((i + 1 : Nat) : Int) a b L) (fun k => ?_) hk
    simp only [spec_lgGood.l1]
    rw [if_neg (by omega), wrap_id (by omega) (by omega)]
    rfl
  | succ d ih =>
    intro j hj
    have hlt : j < y.length := by omega
    rw [List.drop_eq_getElem_cons hlt, List.any_cons]
    by_cases e : y[j].f0 = x0 ∧ y[j].f1 = x1
    · simp only [e, and_self, decide_true, Bool.true_or, Bool.not_true, Bool.false_and]
      refine ev_some fun k => ?_
      simp only [spec_lgGood.l1]
      rw [if_pos (by omega), if_pos (by omega), if_pos (by omega), rdB y j hlt, if_pos e.1, if_pos e.2]
    · simp only [e, decide_false, Bool.false_or]
      refine Ev.step (f := fun k => spec_lgGood.l1 k L n (i : Int) y (y.length : Int) ((j + 1 : Nat) : Int) a b L x0 x1 x2 x3) (fun k => ?_) (ih (j + 1) (by omega))
      simp only [spec_lgGood.l1]
      rw [if_pos (by omega), if_pos (by omega), if_pos (by omega), rdB y j hlt, wrap_id (by omega) (by omega)]
      by_cases e0 : y[j].f0 = x0
      · rw [if_pos e0, if_neg (fun e1 => e ⟨e0, e1⟩)]
        rfl
      · rw [if_neg e0]
        rfl

theorem lgGood_l0 (L : List S53) (a b : Int) (ha : 2 ≤ a ∧ a ≤ 8) (hl : L.length ≤ 1048576) (d : Nat) : ∀ i : Nat, i + d = L.length → Ev (fun k => spec_lgGood.l0 k L (L.length : Int) (i : Int) a b L) (goodFrom a L i d) := by
  induction d with
  | zero =>
    intro i hi
    refine ev_some fun k => ?_
    simp only [spec_lgGood.l0]
    rw [if_neg (by omega)]
    rfl
  | succ d ih =>
    intro i hi
    have hlt : i < L.length := by omega
    have eg : L.getD i z53 = L[i] := by simp [List.getD_eq_getElem?_getD, List.getElem?_eq_getElem hlt]
    unfold goodFrom
    rw [eg]
    have hmain : ∀ k, spec_lgGood.l0 (k + 1) L (L.length : Int) (i : Int) a b L = (if okR a L[i] = true then (spec_lgGood.l1 k L (L.length : Int) (i : Int) (L.take i) ((L.take i).length : Int) ((0 : Nat) : Int) a b L L[i].f0 L[i].f1 L[i].f2 L[i].f3) else some false) := by
      intro k
      simp only [spec_lgGood.l0]
      rw [if_pos (by omega), if_pos (by omega), if_pos (by omega), rdB L i hlt, lgResult_eq a ha]
      simp only [Option.bind_some]
      rw [if_pos (show (i : Int) ≤ (L.length : Int) by omega), Int.toNat_natCast]
      rfl
    by_cases hok : okR a L[i] = true
    · rw [hok]
      have hi2 := lgGood_l1 L (L.length : Int) a b i (by omega) (L.take i) L[i].f0 L[i].f1 L[i].f2 L[i].f3 _ (by simp; omega) (ih (i + 1) (by omega)) (L.take i).length 0 (by omega)
      refine Ev.step (fun k => (hmain k).trans (by rw [if_pos hok])) ?_
      simpa [seenB] using hi2
    · rw [Bool.not_eq_true] at hok
      rw [hok]
      refine ev_some fun k => (hmain k).trans (by rw [hok]; rfl)

theorem lgGood_ev (a b : Int) (L : List S53) (hl : L.length ≤ 1048576) : Ev (fun k => spec_lgGood.f k a b L) (goodB a b L) := by
  unfold spec_lgGood.f goodB
  simp only [l1In_eq, Option.bind_some]
  have hj : ∀ x : Bool, 2 ≤ a ∧ a ≤ 8 → Ev (fun k => spec_lgGood.j0 k x a b L) (!x && goodFrom a L 0 L.length) := by
    intro x ha
    cases x
    · exact Ev.step (f := fun k => spec_lgGood.l0 k L (L.length : Int) ((0 : Nat) : Int) a b L) (fun k => by simp only [spec_lgGood.j0]; rw [if_neg (by simp)]; rfl) (by simpa using lgGood_l0 L a b ha hl L.length 0 (by omega))
    · exact ev_some fun k => by simp [spec_lgGood.j0]
  have hf : Ev (fun k => spec_lgGood.j0 k true a b L) false := ev_some fun k => by simp [spec_lgGood.j0]
  by_cases ha : 2 ≤ a ∧ a ≤ 8
  · by_cases hb : 2 ≤ b ∧ b ≤ 3
    · simp only [ha, hb, and_self, decide_true, if_true, Bool.true_and]
      exact hj _ ha
    · simp only [ha, hb, and_self, decide_true, if_true, decide_false, Bool.false_and, Bool.and_false]
      exact hf
  · simp only [ha, decide_false, Bool.false_and]
    exact hf

theorem g_within_eq (a b c : Int) : g_within.f a b c = some (decide (b ≤ a ∧ a ≤ c)) := by
  unfold g_within.f
  by_cases h : b ≤ a
  · rw [if_pos h]
    simp [h]
  · rw [if_neg h]
    simp [h]
theorem seenHas_eq (L : List S53) (i : Nat) (x y : Int) : seenHas.f L (i : Int) x y = some (seenB L i x y) := by
  unfold seenHas.f seenL seenB
  rw [Int.toNat_natCast]
  congr 1
  rw [Bool.eq_iff_iff]
  simp only [decide_eq_true_eq, List.mem_reverse, List.mem_map, List.any_eq_true, Prod.mk.injEq]
theorem isLeague_l0 (L : List S53) (a b : Int) (ha : 2 ≤ a ∧ a ≤ 8) (hl : L.length ≤ 1048576) (d : Nat) : ∀ i : Nat, i + d = L.length → Ev (fun k => impl_IsLeague.l0 k L (L.length : Int) (i : Int) a b L) (goodFrom a L i d) := by
  induction d with
  | zero =>
    intro i hi
    refine ev_some fun k => ?_
    simp only [impl_IsLeague.l0]
    rw [if_neg (by omega)]
    rfl
  | succ d ih =>
    intro i hi
    have hlt : i < L.length := by omega
    have eg : L.getD i z53 = L[i] := by simp [List.getD_eq_getElem?_getD, List.getElem?_eq_getElem hlt]
    unfold goodFrom okR
    rw [eg]
    have hstep : wrap64 ((i : Int) + 1) = ((i + 1 : Nat) : Int) := by rw [wrap_id (by omega) (by omega)]; rfl
    have hmain : ∀ k, impl_IsLeague.l0 (k + 1) L (L.length : Int) (i : Int) a b L = (if ((decide (0 ≤ L[i].f0 ∧ L[i].f0 ≤ a - 1) && (decide (0 ≤ L[i].f1 ∧ L[i].f1 ≤ a - 1) && (!decide (L[i].f0 = L[i].f1) && (decide (0 ≤ L[i].f2 ∧ L[i].f2 ≤ 20) && decide (0 ≤ L[i].f3 ∧ L[i].f3 ≤ 20))))) && !seenB L i L[i].f0 L[i].f1) = true then impl_IsLeague.l0 k L (L.length : Int) ((i + 1 : Nat) : Int) a b L else some false) := by
      intro k
      simp only [impl_IsLeague.l0]
      rw [if_pos (by omega), if_pos (by omega), if_pos (by omega), rdB L i hlt, hstep]
      simp only [g_within_eq, seenHas_eq, wrap_id (i := a - 1) (by omega) (by omega), Option.bind_some]
      by_cases h2 : L[i].f0 = L[i].f1
      · cases decide (0 ≤ L[i].f0 ∧ L[i].f0 ≤ a - 1) <;> cases decide (0 ≤ L[i].f1 ∧ L[i].f1 ≤ a - 1) <;> simp [h2]
      · cases decide (0 ≤ L[i].f0 ∧ L[i].f0 ≤ a - 1) <;> cases decide (0 ≤ L[i].f1 ∧ L[i].f1 ≤ a - 1) <;> cases decide (0 ≤ L[i].f2 ∧ L[i].f2 ≤ 20) <;> cases decide (0 ≤ L[i].f3 ∧ L[i].f3 ≤ 20) <;> cases seenB L i L[i].f0 L[i].f1 <;> simp [h2]
    rw [← Bool.and_assoc]
    revert hmain
    generalize ((decide (0 ≤ L[i].f0 ∧ L[i].f0 ≤ a - 1) && (decide (0 ≤ L[i].f1 ∧ L[i].f1 ≤ a - 1) && (!decide (L[i].f0 = L[i].f1) && (decide (0 ≤ L[i].f2 ∧ L[i].f2 ≤ 20) && decide (0 ≤ L[i].f3 ∧ L[i].f3 ≤ 20))))) && !seenB L i L[i].f0 L[i].f1) = c
    intro hmain
    cases c
    · exact ev_some fun k => by rw [hmain k]; simp
    · exact Ev.step (fun k => (hmain k).trans (by rw [if_pos rfl])) (by simpa using ih (i + 1) (by omega))
theorem isLeague_ev (a b : Int) (L : List S53) (hl : L.length ≤ 1048576) : Ev (fun k => impl_IsLeague.f k a b L) (goodB a b L) := by
  unfold impl_IsLeague.f goodB
  simp only [g_within_eq, Option.bind_some]
  have hj : ∀ x : Bool, 2 ≤ a ∧ a ≤ 8 → Ev (fun k => impl_IsLeague.j0 k x a b L) (!x && goodFrom a L 0 L.length) := by
    intro x ha
    cases x
    · exact Ev.step (f := fun k => impl_IsLeague.l0 k L (L.length : Int) ((0 : Nat) : Int) a b L) (fun k => by simp only [impl_IsLeague.j0]; rw [if_neg (by simp)]; rfl) (by simpa using isLeague_l0 L a b ha hl L.length 0 (by omega))
    · exact ev_some fun k => by simp [impl_IsLeague.j0]
  have hf : Ev (fun k => impl_IsLeague.j0 k true a b L) false := ev_some fun k => by simp [impl_IsLeague.j0]
  by_cases ha : 2 ≤ a ∧ a ≤ 8
  · by_cases hb : 2 ≤ b ∧ b ≤ 3
    · simp only [ha, hb, and_self, decide_true, if_true, Bool.true_and]
      exact hj _ ha
    · simp only [ha, hb, and_self, decide_true, if_true, decide_false, Bool.false_and, Bool.and_false]
      exact hf
  · simp only [ha, decide_false, Bool.false_and]
    exact hf

/-! what is known of a good league -/
theorem okR_of (T : Int) (L : List S53) (d : Nat) : ∀ i : Nat, i + d = L.length → goodFrom T L i d = true → ∀ j, i ≤ j → (h : j < L.length) → okR T L[j] = true := by
  induction d with
  | zero => intro i hi _ j h1 h; omega
  | succ d ih =>
    intro i hi hg j h1 h
    unfold goodFrom at hg
    simp only [Bool.and_eq_true] at hg
    by_cases e : j = i
    · subst e
      have eg : L.getD j z53 = L[j] := by simp [List.getD_eq_getElem?_getD, List.getElem?_eq_getElem h]
      rw [eg] at hg
      exact hg.1
    · exact ih (i + 1) (by omega) hg.2.2 j (by omega) h
structure Good (a b : Int) (L : List S53) : Prop where
  ha : 2 ≤ a ∧ a ≤ 8
  hb : 2 ≤ b ∧ b ≤ 3
  hl : L.length ≤ 56
  hr : ∀ j, (h : j < L.length) → (0 ≤ L[j].f0 ∧ L[j].f0 ≤ a - 1) ∧ (0 ≤ L[j].f1 ∧ L[j].f1 ≤ a - 1) ∧ ¬ L[j].f0 = L[j].f1 ∧ (0 ≤ L[j].f2 ∧ L[j].f2 ≤ 20) ∧ (0 ≤ L[j].f3 ∧ L[j].f3 ≤ 20)
theorem good_of {a b : Int} {L : List S53} (h : goodB a b L = true) : Good a b L := by
  unfold goodB at h
  simp only [Bool.and_eq_true, decide_eq_true_eq, Bool.not_eq_true', decide_eq_false_iff_not] at h
  obtain ⟨h1, h2, h3, h4⟩ := h
  refine ⟨h1, h2, by omega, fun j hj => ?_⟩
  have := okR_of a L L.length 0 (by omega) h4 j (by omega) hj
  unfold okR at this
  simpa only [Bool.and_eq_true, decide_eq_true_eq, Bool.not_eq_true', decide_eq_false_iff_not] using this


/-- A loop over a list, at the element r. -/
theorem at_split {L pre suf : List S53} {r : S53} (hL : L = pre ++ r :: suf) (hb : L.length ≤ 1048576) :
    L.length = pre.length + suf.length + 1 ∧ rd_T53 L (pre.length : Int) = r ∧ wrap64 ((pre.length : Int) + 1) = ((pre ++ [r]).length : Int) ∧ L = (pre ++ [r]) ++ suf := by
  have h1 : L.length = pre.length + suf.length + 1 := by rw [hL]; simp; omega
  refine ⟨h1, ?_, ?_, by rw [hL]; simp⟩
  · rw [hL]
    unfold rd_T53
    simp
  · rw [wrap_id (by omega) (by omega)]
    simp
theorem Good.mem {a b : Int} {L : List S53} (g : Good a b L) {r : S53} (h : r ∈ L) : (0 ≤ r.f0 ∧ r.f0 ≤ a - 1) ∧ (0 ≤ r.f1 ∧ r.f1 ≤ a - 1) ∧ ¬ r.f0 = r.f1 ∧ (0 ≤ r.f2 ∧ r.f2 ≤ 20) ∧ (0 ≤ r.f3 ∧ r.f3 ≤ 20) := by
  obtain ⟨j, hj, rfl⟩ := List.getElem_of_mem h
  exact g.hr j hj

def seqR (a : Int) : Nat → List S53
  | 0 => []
  | n + 1 => ⟨a, a + 1, a + 1 + 1, a + 1 + 1 + 1⟩ :: seqR (a + 1 + 1 + 1 + 1) n
theorem seqR_len (n : Nat) : ∀ a, (seqR a n).length = n := by
  induction n with
  | zero => intro a; rfl
  | succ n ih => intro a; simp [seqR, ih]
theorem midS_set (xs ys : List S53) (r v : S53) : (xs ++ r :: ys).set (xs.length : Int).toNat v = xs ++ v :: ys := by simp
theorem rd_midS (xs ys : List S53) (r : S53) : rd_T53 (xs ++ r :: ys) (xs.length : Int) = r := by unfold rd_T53; simp
theorem markResS_l0 (rest : List S53) : ∀ (done : List S53) (a : Int), done.length + rest.length ≤ 1048576 → 0 ≤ a → a + 4 * rest.length ≤ 1000000000000000000 →
    Ev (fun k => laws_markResultS.l0 k (done ++ rest) a (done.length : Int)) (a + 4 * rest.length, done ++ seqR a rest.length) := by
  induction rest with
  | nil =>
    intro done a hb h0 h1
    refine ev_some fun k => ?_
    simp only [laws_markResultS.l0]
    rw [if_neg (by simp)]
    simp [seqR]
  | cons r rest ih =>
    intro done a hb h0 h1
    have hb1 : done.length + (rest.length + 1) ≤ 1048576 := by simpa using hb
    have h1' : a + 4 * ((rest.length : Int) + 1) ≤ 1000000000000000000 := by simpa using h1
    have w1 : wrap64 (a + 1) = a + 1 := wrap_id (by omega) (by omega)
    have w2 : wrap64 (a + 1 + 1) = a + 1 + 1 := wrap_id (by omega) (by omega)
    have w3 : wrap64 (a + 1 + 1 + 1) = a + 1 + 1 + 1 := wrap_id (by omega) (by omega)
    have w4 : wrap64 (a + 1 + 1 + 1 + 1) = a + 1 + 1 + 1 + 1 := wrap_id (by omega) (by omega)
    have w5 : wrap64 ((done.length : Int) + 1) = ((done ++ [(⟨a, a + 1, a + 1 + 1, a + 1 + 1 + 1⟩ : S53)]).length : Int) := by
      rw [wrap_id (by omega) (by omega)]
      simp
    have := ih (done ++ [⟨a, a + 1, a + 1 + 1, a + 1 + 1 + 1⟩]) (a + 1 + 1 + 1 + 1) (by simp; omega) (by omega) (by omega)
    have e1 : a + 1 + 1 + 1 + 1 + 4 * (rest.length : Int) = a + 4 * ((r :: rest).length : Int) := by simp; omega
    have e2 : (done ++ [(⟨a, a + 1, a + 1 + 1, a + 1 + 1 + 1⟩ : S53)]) ++ seqR (a + 1 + 1 + 1 + 1) rest.length = done ++ seqR a (r :: rest).length := by simp [seqR]
    rw [e1, e2] at this
    refine Ev.step (fun k => ?_) this
    simp only [laws_markResultS.l0]
    rw [if_pos (by simp; omega), if_pos (by omega), w1, w2, w3, w4, w5]
    simp only [Option.bind_some, midS_set, rd_midS, List.append_assoc, List.singleton_append]
theorem markResS_ev (p q : Int) (x : List S53) (hx : x.length ≤ 1048576) : Ev (fun k => laws_markLeague.f k p q x 1) (1 + 4 * (x.length : Int), seqR 1 x.length) := by
  unfold laws_markLeague.f laws_markResultS.f
  have := markResS_l0 x [] 1 (by simpa using hx) (by omega) (by omega)
  exact Ev.bind (f := fun _ t => some (t.1, t.2)) this (Ev.now _)
theorem heldResS_l0 (n : Nat) : ∀ (done : List S53) (a : Int), done.length + n ≤ 1048576 → 0 ≤ a → a + 4 * n ≤ 1000000000000000000 →
    Ev (fun k => laws_heldResultS.l0 k (done ++ seqR a n) a (done.length : Int)) (a + 4 * n) := by
  induction n with
  | zero =>
    intro done a hb h0 h1
    refine ev_some fun k => ?_
    simp only [laws_heldResultS.l0]
    rw [if_neg (by simp [seqR])]
    simp
  | succ n ih =>
    intro done a hb h0 h1
    have w1 : wrap64 (a + 1) = a + 1 := wrap_id (by omega) (by omega)
    have w2 : wrap64 (a + 1 + 1) = a + 1 + 1 := wrap_id (by omega) (by omega)
    have w3 : wrap64 (a + 1 + 1 + 1) = a + 1 + 1 + 1 := wrap_id (by omega) (by omega)
    have w4 : wrap64 (a + 1 + 1 + 1 + 1) = a + 1 + 1 + 1 + 1 := wrap_id (by omega) (by omega)
    have w5 : wrap64 ((done.length : Int) + 1) = ((done ++ [(⟨a, a + 1, a + 1 + 1, a + 1 + 1 + 1⟩ : S53)]).length : Int) := by
      rw [wrap_id (by omega) (by omega)]
      simp
    have := ih (done ++ [⟨a, a + 1, a + 1 + 1, a + 1 + 1 + 1⟩]) (a + 1 + 1 + 1 + 1) (by simp; omega) (by omega) (by omega)
    have e1 : a + 1 + 1 + 1 + 1 + 4 * (n : Int) = a + 4 * ((n + 1 : Nat) : Int) := by omega
    have e2 : (done ++ [(⟨a, a + 1, a + 1 + 1, a + 1 + 1 + 1⟩ : S53)]) ++ seqR (a + 1 + 1 + 1 + 1) n = done ++ seqR a (n + 1) := by simp [seqR]
    have e3 : done ++ seqR a (n + 1) = done ++ (⟨a, a + 1, a + 1 + 1, a + 1 + 1 + 1⟩ : S53) :: seqR (a + 1 + 1 + 1 + 1) n := rfl
    have hl : (done.length : Int) < ((done ++ seqR a (n + 1)).length : Int) := by simp [seqR_len]; omega
    have hr : rd_T53 (done ++ seqR a (n + 1)) (done.length : Int) = (⟨a, a + 1, a + 1 + 1, a + 1 + 1 + 1⟩ : S53) := by rw [e3, rd_midS]
    rw [e1, e2] at this
    refine Ev.step (fun k => ?_) this
    simp only [laws_heldResultS.l0]
    rw [if_pos hl, if_pos (by omega), hr, w1, w2, w3, w4, w5]
    simp only [if_true]
theorem heldResS_ev (p q : Int) (n : Nat) (hn : n ≤ 1048576) : Ev (fun k => laws_heldLeague.f k p q (seqR 1 n) 1) (1 + 4 * (n : Int)) := by
  unfold laws_heldLeague.f laws_heldResultS.f
  have := heldResS_l0 n [] 1 (by simpa using hn) (by omega) (by omega)
  refine Ev.bind this ?_
  rw [if_neg (by omega)]
  exact Ev.now _

/-! numbers between signs -/
def numsA (acc : List Int) : List UInt8 → List UInt8 → List Int × Bool
  | [], s => (acc ++ [(numV 999999 s).1], (numV 999999 s).2)
  | b :: bs, s => if (cutL b s).2.2 = true then (if (numV 999999 (cutL b s).1).2 = true then numsA (acc ++ [(numV 999999 (cutL b s).1).1]) bs (cutL b s).2.1 else ([], false)) else ([], false)
theorem nums_l0 (signs : List UInt8) (hm : signs.length ≤ 10) (d : Nat) : ∀ (i : Nat) (acc : List Int) (s : List UInt8), i + d = signs.length → acc.length ≤ i → s.length ≤ 1048576 →
    Ev (fun k => impl_numbersOf.l0 k (mkB s) (mkB signs) acc (signs.length : Int) (i : Int)) (numsA acc (signs.drop i) s) := by
  induction d with
  | zero =>
    intro i acc s hi ha hs
    rw [List.drop_of_length_le (by omega)]
    refine ev_some fun k => ?_
    simp only [impl_numbersOf.l0]
    rw [if_neg (by omega), number_f _ hs 999999 (by omega) (by omega), Option.bind_some, if_pos (by omega)]
    rfl
  | succ d ih =>
    intro i acc s hi ha hs
    have hlt : i < signs.length := by omega
    have hw : wrap64 ((i : Int) + 1) = ((i + 1 : Nat) : Int) := by rw [wrap_id (by omega) (by omega)]; omega
    have hx : (mkB signs).extract (i : Int).toNat ((i + 1 : Nat) : Int).toNat = ⟨#[signs[i]]⟩ := by
      rw [extr, mkB_data, show (i : Int).toNat = i from rfl, show ((i + 1 : Nat) : Int).toNat = i + 1 from rfl, show i + 1 - i = 1 by omega, List.drop_eq_getElem_cons hlt]
      rfl
    obtain ⟨z1, z2⟩ := cut_sizes signs[i] s
    rw [List.drop_eq_getElem_cons hlt]
    have hsz : ((mkB signs).size : Int) = (signs.length : Int) := by rw [mkB_size]
    unfold numsA
    cases ho : (cutL signs[i] s).2.2 with
    | false =>
      simp only [Bool.false_eq_true, if_false]
      refine ev_some fun k => ?_
      simp only [impl_numbersOf.l0]
      rw [if_pos (by omega), if_pos (by omega), hw, hx, cut_f s hs, if_pos (by omega), if_pos (by rw [hsz]; omega), Option.bind_some]
      simp only
      rw [number_f _ (by omega) 999999 (by omega) (by omega), Option.bind_some, ho]
      rfl
    | true =>
      simp only [if_true]
      cases hn : (numV 999999 (cutL signs[i] s).1).2 with
      | false =>
        simp only [Bool.false_eq_true, if_false]
        refine ev_some fun k => ?_
        simp only [impl_numbersOf.l0]
        rw [if_pos (by omega), if_pos (by omega), hw, hx, cut_f s hs, if_pos (by omega), if_pos (by rw [hsz]; omega), Option.bind_some]
        simp only
        rw [number_f _ (by omega) 999999 (by omega) (by omega), Option.bind_some, ho, hn]
        rfl
      | true =>
        simp only [if_true]
        refine Ev.step (fun k => ?_) (ih (i + 1) (acc ++ [(numV 999999 (cutL signs[i] s).1).1]) (cutL signs[i] s).2.1 (by omega) (by simp; omega) (by omega))
        simp only [impl_numbersOf.l0]
        rw [if_pos (by omega), if_pos (by omega), hw, hx, cut_f s hs, if_pos (by omega), if_pos (by rw [hsz]; omega), Option.bind_some]
        simp only
        rw [number_f _ (by omega) 999999 (by omega) (by omega), Option.bind_some, ho, hn, if_pos rfl, if_pos rfl, if_pos (by omega)]
theorem nums_ev (signs : List UInt8) (hm : signs.length ≤ 10) (s : List UInt8) (hs : s.length ≤ 1048576) : Ev (fun k => impl_numbersOf.f k (mkB s) (mkB signs)) (numsA [] signs s) := by
  have := nums_l0 signs hm signs.length 0 [] s (by omega) (by simp) hs
  unfold impl_numbersOf.f
  rw [mkB_size]
  simpa using this
theorem numV_2 (l : List UInt8) : (numV 999999 l).2 = decide (0 ≤ canon l) ∧ (0 ≤ canon l → (numV 999999 l).1 = canon l) := by
  have := canon_le l
  unfold numV
  by_cases c : 0 ≤ canon l
  · rw [if_pos ⟨c, this.2⟩, decide_eq_true c]; exact ⟨rfl, fun _ => rfl⟩
  · rw [if_neg (fun q => c q.1), decide_eq_false c]; exact ⟨rfl, fun q => absurd q c⟩
def headOk (h : List UInt8) : Bool := (cutL 119 h).2.2 && (decide (0 ≤ canon (cutL 119 h).1) && decide (0 ≤ canon (cutL 119 h).2.1))
theorem head_nums (h : List UInt8) : (numsA [] [119] h).2 = headOk h ∧ (headOk h = true → (numsA [] [119] h).1 = [canon (cutL 119 h).1, canon (cutL 119 h).2.1]) := by
  unfold headOk
  unfold numsA numsA
  obtain ⟨n1, m1⟩ := numV_2 (cutL 119 h).1
  obtain ⟨n2, m2⟩ := numV_2 (cutL 119 h).2.1
  cases (cutL 119 h).2.2 with
  | false => simp
  | true =>
    simp only [if_true, Bool.true_and]
    rw [n1]
    by_cases c1 : 0 ≤ canon (cutL 119 h).1
    · rw [decide_eq_true c1, m1 c1]
      simp only [if_true, Bool.true_and]
      refine ⟨n2, fun q => ?_⟩
      rw [m2 (of_decide_eq_true q)]
      rfl
    · rw [decide_eq_false c1]
      simp
def w1 (w : List UInt8) : List UInt8 := (cutL 45 w).2.1
def w2 (w : List UInt8) : List UInt8 := (cutL 61 (w1 w)).2.1
def wordOk (w : List UInt8) : Bool := (cutL 45 w).2.2 && (decide (0 ≤ canon (cutL 45 w).1) && ((cutL 61 (w1 w)).2.2 && (decide (0 ≤ canon (cutL 61 (w1 w)).1) && ((cutL 58 (w2 w)).2.2 && (decide (0 ≤ canon (cutL 58 (w2 w)).1) && decide (0 ≤ canon (cutL 58 (w2 w)).2.1))))))
def wordR (w : List UInt8) : S53 := ⟨canon (cutL 45 w).1, canon (cutL 61 (w1 w)).1, canon (cutL 58 (w2 w)).1, canon (cutL 58 (w2 w)).2.1⟩
theorem word_nums (w : List UInt8) : (numsA [] [45, 61, 58] w).2 = wordOk w ∧ (wordOk w = true → (numsA [] [45, 61, 58] w).1 = [(wordR w).f0, (wordR w).f1, (wordR w).f2, (wordR w).f3]) := by
  unfold wordOk wordR
  unfold numsA numsA numsA numsA
  show (if (cutL 45 w).2.2 = true then _ else _ : List Int × Bool).2 = _ ∧ _
  rw [show (cutL 45 w).2.1 = w1 w from rfl, show (cutL 61 (w1 w)).2.1 = w2 w from rfl]
  obtain ⟨n1, m1⟩ := numV_2 (cutL 45 w).1
  obtain ⟨n2, m2⟩ := numV_2 (cutL 61 (w1 w)).1
  obtain ⟨n3, m3⟩ := numV_2 (cutL 58 (w2 w)).1
  obtain ⟨n4, m4⟩ := numV_2 (cutL 58 (w2 w)).2.1
  rw [n1, n2, n3, n4]
  cases (cutL 45 w).2.2 with
  | false => simp
  | true =>
    simp only [if_true, Bool.true_and]
    by_cases c1 : 0 ≤ canon (cutL 45 w).1
    · rw [decide_eq_true c1, m1 c1]
      simp only [if_true, Bool.true_and]
      cases (cutL 61 (w1 w)).2.2 with
      | false => simp
      | true =>
        simp only [if_true, Bool.true_and]
        by_cases c2 : 0 ≤ canon (cutL 61 (w1 w)).1
        · rw [decide_eq_true c2, m2 c2]
          simp only [if_true, Bool.true_and]
          cases (cutL 58 (w2 w)).2.2 with
          | false => simp
          | true =>
            simp only [if_true, Bool.true_and]
            by_cases c3 : 0 ≤ canon (cutL 58 (w2 w)).1
            · rw [decide_eq_true c3, m3 c3]
              simp only [if_true, Bool.true_and]
              refine ⟨trivial, fun q => ?_⟩
              rw [m4 (of_decide_eq_true q)]
              rfl
            · rw [decide_eq_false c3]
              simp
        · rw [decide_eq_false c2]
          simp
    · rw [decide_eq_false c1]
      simp
/-! the two ways to read a word agree -/
theorem cut_app {b : UInt8} {x y : List UInt8} (h : b ∉ x) : cutL b (x ++ b :: y) = (x, y, true) := by
  induction x with
  | nil => simp [cutL]
  | cons c r ih =>
    have hc : ¬ c = b := fun e => h (by rw [e]; exact List.mem_cons_self)
    have := ih (fun q => h (List.mem_cons_of_mem _ q))
    show (if c = b then ([], r ++ b :: y, true) else (c :: (cutL b (r ++ b :: y)).1, (cutL b (r ++ b :: y)).2.1, (cutL b (r ++ b :: y)).2.2)) = _
    rw [if_neg hc, this]
theorem no_sign {l : List UInt8} {b : UInt8} (hb : isD b = false) (h : 0 ≤ canon l) : b ∉ l := fun q => by
  have := canon_sign hb q
  omega
theorem spl_two {b : UInt8} {s : List UInt8} (h : (spl b [] s).length = 2) : (cutL b s).2.2 = true ∧ b ∉ (cutL b s).2.1 ∧ spl b [] s = [(cutL b s).1, (cutL b s).2.1] := by
  rw [spl_cut] at h
  cases ho : (cutL b s).2.2 with
  | false => rw [ho] at h; simp at h
  | true =>
    rw [ho] at h
    simp only [if_true, List.length_cons] at h
    have hr : (cutL b (cutL b s).2.1).2.2 = false := by
      cases q : (cutL b (cutL b s).2.1).2.2 with
      | false => rfl
      | true =>
        rw [spl_cut, if_pos q, List.length_cons] at h
        have := (spl_sizes b (cutL b (cutL b s).2.1).2.1 []).2.2
        omega
    have hn : b ∉ (cutL b s).2.1 := fun q => by
      obtain ⟨p, r, hp⟩ := List.append_of_mem q
      have h2 := cutL_no b _ hr
      have h3 := cut_first b (cutL b s).2.1
      rw [h2.1] at h3
      exact h3 q
    refine ⟨rfl, hn, ?_⟩
    rw [spl_cut, if_pos ho, spl_cut, hr]
    simp
theorem spl_two_of {b : UInt8} {x y : List UInt8} (hx : b ∉ x) (hy : b ∉ y) : spl b [] (x ++ b :: y) = [x, y] := by
  rw [spl_cut, cut_app hx]
  simp only [if_true]
  rw [spl_cut, cut_not_mem hy]
  simp
def two (b : UInt8) (s : List UInt8) : Int × Int := if (spl b [] s).length = 2 then (canon (cutL b s).1, canon (cutL b s).2.1) else (-1, -1)
theorem two_ev (b : UInt8) (s : List UInt8) (hs : s.length ≤ 1048576) : Ev (fun k => spec_lgTwo.f k (mkB s) (b.toNat : Int)) (two b s) := by
  have hsplit := split_ev (mkB s) (by rw [mkB_size]; exact hs) b
  rw [mkB_data] at hsplit
  unfold spec_lgTwo.f two
  refine Ev.bind hsplit ?_
  rw [List.length_map]
  by_cases c : (spl b [] s).length = 2
  · obtain ⟨h1, h2, h3⟩ := spl_two c
    obtain ⟨z1, z2⟩ := cut_sizes b s
    have e1 := read_ev (mkB (cutL b s).1) (by rw [mkB_size]; omega)
    have e2 := read_ev (mkB (cutL b s).2.1) (by rw [mkB_size]; omega)
    rw [mkB_data] at e1 e2
    rw [if_pos c, h3]
    simp only [List.length_cons, List.length_nil, List.map_cons, List.map_nil, if_pos (show ((0 + 1 + 1 : Nat) : Int) = 2 from rfl), if_pos (show (0 : Int) < ((0 + 1 + 1 : Nat) : Int) by omega), if_pos (show (1 : Int) < ((0 + 1 + 1 : Nat) : Int) by omega)]
    refine Ev.bind e1 ?_
    refine Ev.bind e2 ?_
    exact Ev.now _
  · rw [if_neg c]
    simp only [if_neg (show ¬ ((spl b [] s).length : Int) = 2 by omega)]
    exact Ev.now _
theorem two_of {b : UInt8} (hb : isD b = false) {x y : List UInt8} (hx : 0 ≤ canon x) (hy : 0 ≤ canon y) : two b (x ++ b :: y) = (canon x, canon y) := by
  unfold two
  rw [spl_two_of (no_sign hb hx) (no_sign hb hy), cut_app (no_sign hb hx)]
  rfl
theorem two_inv {b : UInt8} {s : List UInt8} (h : 0 ≤ (two b s).1) : (spl b [] s).length = 2 ∧ s = (cutL b s).1 ++ b :: (cutL b s).2.1 ∧ two b s = (canon (cutL b s).1, canon (cutL b s).2.1) := by
  unfold two at h ⊢
  by_cases c : (spl b [] s).length = 2
  · rw [if_pos c]
    exact ⟨c, cut_join b s (spl_two c).1, rfl⟩
  · rw [if_neg c] at h
    omega
def specOk (w : List UInt8) : Bool := decide ((spl 61 [] w).length = 2)
def specW (w : List UInt8) : S53 := ⟨(two 45 (cutL 61 w).1).1, (two 45 (cutL 61 w).1).2, (two 58 (cutL 61 w).2.1).1, (two 58 (cutL 61 w).2.1).2⟩
theorem word_parts {w : List UInt8} (h : wordOk w = true) : ∃ x y u v, w = x ++ 45 :: (y ++ 61 :: (u ++ 58 :: v)) ∧ 0 ≤ canon x ∧ 0 ≤ canon y ∧ 0 ≤ canon u ∧ 0 ≤ canon v ∧ wordR w = ⟨canon x, canon y, canon u, canon v⟩ := by
  unfold wordOk at h
  simp only [Bool.and_eq_true, decide_eq_true_eq] at h
  obtain ⟨h1, h2, h3, h4, h5, h6, h7⟩ := h
  have j1 := cut_join 45 w h1
  have j2 := cut_join 61 (w1 w) h3
  have j3 := cut_join 58 (w2 w) h5
  refine ⟨_, _, _, _, ?_, h2, h4, h6, h7, rfl⟩
  rw [← j3]
  show w = (cutL 45 w).1 ++ 45 :: ((cutL 61 (w1 w)).1 ++ 61 :: (cutL 61 (w1 w)).2.1)
  rw [← j2]
  exact j1
theorem word_of {x y u v : List UInt8} (hx : 0 ≤ canon x) (hy : 0 ≤ canon y) (hu : 0 ≤ canon u) (hv : 0 ≤ canon v) : wordOk (x ++ 45 :: (y ++ 61 :: (u ++ 58 :: v))) = true := by
  have a1 : cutL 45 (x ++ 45 :: (y ++ 61 :: (u ++ 58 :: v))) = (x, y ++ 61 :: (u ++ 58 :: v), true) := cut_app (no_sign (by decide) hx)
  have a2 : cutL 61 (y ++ 61 :: (u ++ 58 :: v)) = (y, u ++ 58 :: v, true) := cut_app (no_sign (by decide) hy)
  have a3 : cutL 58 (u ++ 58 :: v) = (u, v, true) := cut_app (no_sign (by decide) hu)
  unfold wordOk w2 w1
  rw [a1, a2, a3]
  simp [hx, hy, hu, hv]
theorem word_spec {w : List UInt8} (h : wordOk w = true) : specOk w = true ∧ specW w = wordR w := by
  obtain ⟨x, y, u, v, rfl, hx, hy, hu, hv, hr⟩ := word_parts h
  rw [hr]
  have e : x ++ 45 :: (y ++ 61 :: (u ++ 58 :: v)) = (x ++ 45 :: y) ++ 61 :: (u ++ 58 :: v) := by simp
  have n1 : (61 : UInt8) ∉ x ++ 45 :: y := by
    intro q
    rcases List.mem_append.1 q with q | q
    · exact no_sign (by decide) hx q
    · rcases List.mem_cons.1 q with q | q
      · exact absurd q (by decide)
      · exact no_sign (by decide) hy q
  have n2 : (61 : UInt8) ∉ u ++ 58 :: v := by
    intro q
    rcases List.mem_append.1 q with q | q
    · exact no_sign (by decide) hu q
    · rcases List.mem_cons.1 q with q | q
      · exact absurd q (by decide)
      · exact no_sign (by decide) hv q
  unfold specOk specW
  rw [e, spl_two_of n1 n2, cut_app n1, two_of (by decide) hx hy, two_of (by decide) hu hv]
  exact ⟨rfl, rfl⟩
theorem spec_word {w : List UInt8} (h : specOk w = true) (h0 : 0 ≤ (specW w).f0) (h1 : 0 ≤ (specW w).f1) (h2 : 0 ≤ (specW w).f2) (h3 : 0 ≤ (specW w).f3) : wordOk w = true := by
  have hl := of_decide_eq_true h
  obtain ⟨k1, _, _⟩ := spl_two hl
  have j := cut_join 61 w k1
  obtain ⟨_, ja, ta⟩ := two_inv (b := 45) h0
  obtain ⟨_, jb, tb⟩ := two_inv (b := 58) h2
  have c0 : 0 ≤ canon (cutL 45 (cutL 61 w).1).1 := by have := h0; unfold specW at this; rw [ta] at this; exact this
  have c1 : 0 ≤ canon (cutL 45 (cutL 61 w).1).2.1 := by have := h1; unfold specW at this; rw [ta] at this; exact this
  have c2 : 0 ≤ canon (cutL 58 (cutL 61 w).2.1).1 := by have := h2; unfold specW at this; rw [tb] at this; exact this
  have c3 : 0 ≤ canon (cutL 58 (cutL 61 w).2.1).2.1 := by have := h3; unfold specW at this; rw [tb] at this; exact this
  have hw : w = (cutL 45 (cutL 61 w).1).1 ++ 45 :: ((cutL 45 (cutL 61 w).1).2.1 ++ 61 :: ((cutL 58 (cutL 61 w).2.1).1 ++ 58 :: (cutL 58 (cutL 61 w).2.1).2.1)) := by
    rw [← jb]
    conv => lhs; rw [j]
    conv => lhs; rw [ja]
    simp
  rw [hw]
  exact word_of c0 c1 c2 c3

/-! the league's text, read both ways -/
abbrev LR := Int × Int × List S53 × Bool
def zeroL : LR := (0, 0, [], false)
def fin (T W : Int) (L : List S53) : LR := if goodB T W L = true then (T, W, L, true) else zeroL
theorem rdW (ws : List (List UInt8)) (i : Nat) (h : i < ws.length) : rdOf ByteArray.empty (ws.map mkB) (i : Int) = mkB ws[i] := by
  unfold rdOf
  simp [List.getD_eq_getElem?_getD, List.getElem?_eq_getElem h]
theorem implW_l0 (ws : List (List UInt8)) (hl : ws.length ≤ 1048576) (hz : ∀ w ∈ ws, w.length ≤ 1048576) (T W : Int) (d : Nat) : ∀ (i : Nat) (R : List S53), i + d = ws.length → R.length = i →
    Ev (fun k => impl_ParseLeague.l0 k (ws.map mkB) (ws.length : Int) (i : Int) T W R) (if (ws.drop i).all wordOk = true then fin T W (R ++ (ws.drop i).map wordR) else zeroL) := by
  induction d with
  | zero =>
    intro i R hi hR
    rw [List.drop_of_length_le (by omega)]
    simp only [List.all_nil, if_true, List.map_nil, List.append_nil]
    refine Ev.step (f := fun k => (impl_IsLeague.f k T W R).bind fun t210 => (if t210 = true then (some (T, W, R, true)) else (some (0, 0, ([] : List S53), false)))) (fun k => ?_) (Ev.bind (isLeague_ev T W R (by omega)) ?_)
    · simp only [impl_ParseLeague.l0]
      rw [if_neg (by omega)]
    · unfold fin zeroL
      cases goodB T W R <;> exact Ev.now _
  | succ d ih =>
    intro i R hi hR
    have hlt : i < ws.length := by omega
    rw [List.drop_eq_getElem_cons hlt, List.all_cons]
    have hz1 := hz ws[i] (List.getElem_mem hlt)
    have hw : wrap64 ((i : Int) + 1) = ((i + 1 : Nat) : Int) := by rw [wrap_id (by omega) (by omega)]; omega
    have hn := nums_ev [45, 61, 58] (by simp) ws[i] hz1
    obtain ⟨q1, q2⟩ := word_nums ws[i]
    have hml : ((ws.map mkB).length : Int) = (ws.length : Int) := by simp
    cases c : wordOk ws[i] with
    | false =>
      simp only [Bool.false_and, Bool.false_eq_true, if_false]
      refine Ev.step (f := fun k => (impl_numbersOf.f k (mkB ws[i]) (mkB [45, 61, 58])).bind fun bt199 => (if bt199.2 = true then (if 0 < (bt199.1.length : Int) then (if 1 < (bt199.1.length : Int) then (if 2 < (bt199.1.length : Int) then (if 3 < (bt199.1.length : Int) then (if R.length < 4398046511104 then (impl_ParseLeague.l0 k (ws.map mkB) (ws.length : Int) ((i + 1 : Nat) : Int) T W (R ++ [(⟨rd bt199.1 0, rd bt199.1 1, rd bt199.1 2, rd bt199.1 3⟩ : S53)])) else (none)) else (none)) else (none)) else (none)) else (none)) else (some (0, 0, ([] : List (S53)), false)))) (fun k => ?_) (Ev.bind hn ?_)
      · simp only [impl_ParseLeague.l0]
        rw [if_pos (by omega), if_pos (by omega), hml, if_pos (by omega), rdW ws i hlt, hw]
        rfl
      · rw [q1, c]
        exact Ev.now _
    | true =>
      simp only [Bool.true_and, List.map_cons]
      have := ih (i + 1) (R ++ [wordR ws[i]]) (by omega) (by simp; omega)
      rw [List.append_assoc, List.singleton_append] at this
      refine Ev.step (f := fun k => (impl_numbersOf.f k (mkB ws[i]) (mkB [45, 61, 58])).bind fun bt199 => (if bt199.2 = true then (if 0 < (bt199.1.length : Int) then (if 1 < (bt199.1.length : Int) then (if 2 < (bt199.1.length : Int) then (if 3 < (bt199.1.length : Int) then (if R.length < 4398046511104 then (impl_ParseLeague.l0 k (ws.map mkB) (ws.length : Int) ((i + 1 : Nat) : Int) T W (R ++ [(⟨rd bt199.1 0, rd bt199.1 1, rd bt199.1 2, rd bt199.1 3⟩ : S53)])) else (none)) else (none)) else (none)) else (none)) else (none)) else (some (0, 0, ([] : List (S53)), false)))) (fun k => ?_) (Ev.bind hn ?_)
      · simp only [impl_ParseLeague.l0]
        rw [if_pos (by omega), if_pos (by omega), hml, if_pos (by omega), rdW ws i hlt, hw]
        rfl
      · rw [q1, c, q2 c]
        simp only [if_true, List.length_cons, List.length_nil, if_pos (show (0 : Int) < ((0 + 1 + 1 + 1 + 1 : Nat) : Int) by omega), if_pos (show (1 : Int) < ((0 + 1 + 1 + 1 + 1 : Nat) : Int) by omega), if_pos (show (2 : Int) < ((0 + 1 + 1 + 1 + 1 : Nat) : Int) by omega), if_pos (show (3 : Int) < ((0 + 1 + 1 + 1 + 1 : Nat) : Int) by omega), if_pos (show R.length < 4398046511104 by omega)]
        exact this
theorem specW_l0 (ws : List (List UInt8)) (hl : ws.length ≤ 1048576) (hz : ∀ w ∈ ws, w.length ≤ 1048576) (T W : Int) (d : Nat) : ∀ (i : Nat) (R : List S53), i + d = ws.length → R.length = i →
    Ev (fun k => spec_lgParse.l0 k (ws.map mkB) (ws.length : Int) (i : Int) T W R) (if (ws.drop i).all specOk = true then fin T W (R ++ (ws.drop i).map specW) else zeroL) := by
  induction d with
  | zero =>
    intro i R hi hR
    rw [List.drop_of_length_le (by omega)]
    simp only [List.all_nil, if_true, List.map_nil, List.append_nil]
    refine Ev.step (f := fun k => (spec_lgGood.f k T W R).bind fun t210 => (if t210 = true then (some (T, W, R, true)) else (some (0, 0, ([] : List S53), false)))) (fun k => ?_) (Ev.bind (lgGood_ev T W R (by omega)) ?_)
    · simp only [spec_lgParse.l0]
      rw [if_neg (by omega)]
    · unfold fin zeroL
      cases goodB T W R <;> exact Ev.now _
  | succ d ih =>
    intro i R hi hR
    have hlt : i < ws.length := by omega
    rw [List.drop_eq_getElem_cons hlt, List.all_cons]
    have hz1 := hz ws[i] (List.getElem_mem hlt)
    have hw : wrap64 ((i : Int) + 1) = ((i + 1 : Nat) : Int) := by rw [wrap_id (by omega) (by omega)]; omega
    have hml : ((ws.map mkB).length : Int) = (ws.length : Int) := by simp
    have hsplit := split_ev (mkB ws[i]) (by rw [mkB_size]; exact hz1) 61
    rw [mkB_data] at hsplit
    rw [show ((61 : UInt8).toNat : Int) = 61 from rfl] at hsplit
    have stepE : ∀ res : LR, Ev (fun k => (if (((spl 61 [] ws[i]).map mkB).length : Int) = 2 then (if 0 < (((spl 61 [] ws[i]).map mkB).length : Int) then ((spec_lgTwo.f k (rdOf ByteArray.empty ((spl 61 [] ws[i]).map mkB) 0) 45).bind fun bt152 => (if 1 < (((spl 61 [] ws[i]).map mkB).length : Int) then ((spec_lgTwo.f k (rdOf ByteArray.empty ((spl 61 [] ws[i]).map mkB) 1) 58).bind fun bt155 => (if R.length < 4398046511104 then (spec_lgParse.l0 k (ws.map mkB) (ws.length : Int) ((i + 1 : Nat) : Int) T W (R ++ [(⟨bt152.1, bt152.2, bt155.1, bt155.2⟩ : S53)])) else (none))) else (none))) else (none)) else (some (0, 0, ([] : List (S53)), false)))) res →
        Ev (fun k => spec_lgParse.l0 k (ws.map mkB) (ws.length : Int) (i : Int) T W R) res := by
      intro res hk
      refine Ev.step (f := fun k => (spec_l1Split.f k (mkB ws[i]) 61).bind fun t148 => (if (t148.length : Int) = 2 then (if 0 < (t148.length : Int) then ((spec_lgTwo.f k (rdOf ByteArray.empty t148 0) 45).bind fun bt152 => (if 1 < (t148.length : Int) then ((spec_lgTwo.f k (rdOf ByteArray.empty t148 1) 58).bind fun bt155 => (if R.length < 4398046511104 then (spec_lgParse.l0 k (ws.map mkB) (ws.length : Int) ((i + 1 : Nat) : Int) T W (R ++ [(⟨bt152.1, bt152.2, bt155.1, bt155.2⟩ : S53)])) else (none))) else (none))) else (none)) else (some (0, 0, ([] : List (S53)), false)))) (fun k => ?_) (Ev.bind hsplit hk)
      simp only [spec_lgParse.l0]
      rw [if_pos (by omega), if_pos (by omega), hml, if_pos (by omega), rdW ws i hlt, hw]
    refine stepE _ ?_
    have hms : (((spl 61 [] ws[i]).map mkB).length : Int) = ((spl 61 [] ws[i]).length : Int) := by simp
    cases c : specOk ws[i] with
    | false =>
      have cn := of_decide_eq_false c
      simp only [Bool.false_and, Bool.false_eq_true, if_false]
      simp only [if_neg (show ¬ (((spl 61 [] ws[i]).map mkB).length : Int) = 2 by omega)]
      exact Ev.now _
    | true =>
      have cn := of_decide_eq_true c
      simp only [Bool.true_and, List.map_cons]
      obtain ⟨h1, h2, h3⟩ := spl_two cn
      obtain ⟨z1, z2⟩ := cut_sizes 61 ws[i]
      have this := ih (i + 1) (R ++ [specW ws[i]]) (by omega) (by simp; omega)
      rw [List.append_assoc, List.singleton_append] at this
      have e1 := two_ev 45 (cutL 61 ws[i]).1 (by omega)
      have e2 := two_ev 58 (cutL 61 ws[i]).2.1 (by omega)
      rw [show ((45 : UInt8).toNat : Int) = 45 from rfl] at e1
      rw [show ((58 : UInt8).toNat : Int) = 58 from rfl] at e2
      rw [h3]
      simp only [List.length_cons, List.length_nil, List.map_cons, List.map_nil, if_pos (show ((0 + 1 + 1 : Nat) : Int) = 2 from rfl), if_pos (show (0 : Int) < ((0 + 1 + 1 : Nat) : Int) by omega), if_pos (show (1 : Int) < ((0 + 1 + 1 : Nat) : Int) by omega)]
      refine Ev.bind e1 ?_
      refine Ev.bind e2 ?_
      simp only [if_pos (show R.length < 4398046511104 by omega)]
      exact this
def headT (h : List UInt8) : Int := canon (cutL 119 h).1
def headW (h : List UInt8) : Int := canon (cutL 119 h).2.1
def restOk (g : List UInt8) : Bool := decide (g = []) || (spl 44 [] g).all wordOk
def restR (g : List UInt8) : List S53 := if g = [] then [] else (spl 44 [] g).map wordR
def resL (l : List UInt8) : LR := if ((cutL 124 l).2.2 && (headOk (cutL 124 l).1 && restOk (cutL 124 l).2.1)) = true then fin (headT (cutL 124 l).1) (headW (cutL 124 l).1) (restR (cutL 124 l).2.1) else zeroL
theorem empty_iff (g : List UInt8) : ((mkB g).toList = ([] : List UInt8)) ↔ g = [] := by
  rw [ByteArray.toList_eq, mkB_data]
theorem implL_ev (l : List UInt8) (hl : l.length ≤ 1048576) : Ev (fun k => impl_ParseLeague.f k (mkB l)) (resL l) := by
  obtain ⟨z1, z2⟩ := cut_sizes 124 l
  have hn := nums_ev [119] (by simp) (cutL 124 l).1 (by omega)
  obtain ⟨q1, q2⟩ := head_nums (cutL 124 l).1
  have bad : ∀ g ns, Ev (fun k => impl_ParseLeague.j0 k g ns true) zeroL := fun g ns => ev_some fun k => by simp [impl_ParseLeague.j0, zeroL]
  unfold impl_ParseLeague.f
  simp only [cut_f l hl 124, Option.bind_some]
  refine Ev.bind hn ?_
  rw [q1]
  unfold resL
  cases ho : (cutL 124 l).2.2 with
  | false => simp only [Bool.false_eq_true, if_false, Bool.false_and]; exact bad _ _
  | true =>
    simp only [if_true, Bool.true_and]
    cases hh : headOk (cutL 124 l).1 with
    | false => simp only [Bool.not_false, Bool.false_and, Bool.false_eq_true, if_false]; exact bad _ _
    | true =>
      simp only [Bool.not_true, Bool.true_and]
      rw [q2 hh]
      have hj := congrArg List.length (cut_join 124 l ho)
      simp only [List.length_append, List.length_cons] at hj
      have r0 : ∀ x y : Int, rd [x, y] 0 = x := fun _ _ => rfl
      have r1 : ∀ x y : Int, rd [x, y] 1 = y := fun _ _ => rfl
      refine Ev.step (f := fun k => (if (mkB (cutL 124 l).2.1).toList = ([] : List UInt8) then ((impl_IsLeague.f k (headT (cutL 124 l).1) (headW (cutL 124 l).1) ([] : List (S53))).bind fun t194 => (if t194 = true then (some (headT (cutL 124 l).1, headW (cutL 124 l).1, ([] : List (S53)), true)) else (some (0, 0, ([] : List (S53)), false)))) else ((strings_Split.f (mkB (cutL 124 l).2.1) (⟨#[44]⟩ : ByteArray)).bind fun t195 => (impl_ParseLeague.l0 k t195 (t195.length : Int) 0 (headT (cutL 124 l).1) (headW (cutL 124 l).1) ([] : List (S53)))))) (fun k => ?_) ?_
      · simp only [impl_ParseLeague.j0, Bool.false_eq_true, if_false, List.length_cons, List.length_nil, r0, r1]
        rw [if_pos (by omega), if_pos (by omega)]
        rfl
      · unfold restOk restR
        by_cases hg : (cutL 124 l).2.1 = []
        · simp only [if_pos ((empty_iff _).2 hg)]
          rw [decide_eq_true hg, Bool.true_or]
          simp only [if_true, if_pos hg]
          refine Ev.bind (isLeague_ev _ _ [] (by simp)) ?_
          unfold fin zeroL
          cases goodB (headT (cutL 124 l).1) (headW (cutL 124 l).1) [] <;> exact Ev.now _
        · simp only [if_neg (fun q => hg ((empty_iff _).1 q))]
          rw [decide_eq_false hg, Bool.false_or, if_neg hg]
          simp only [split_f (cutL 124 l).2.1 (by omega) 44, Option.bind_some, List.length_map]
          obtain ⟨s1, s2, s3⟩ := spl_sizes 44 (cutL 124 l).2.1 []
          have := implW_l0 (spl 44 [] (cutL 124 l).2.1) (by omega) (fun w hw => by have := s1 w hw; simp at this; omega) (headT (cutL 124 l).1) (headW (cutL 124 l).1) (spl 44 [] (cutL 124 l).2.1).length 0 [] (by omega) rfl
          simpa using this
theorem head_two {h : List UInt8} (hh : headOk h = true) : two 119 h = (headT h, headW h) := by
  unfold headOk at hh
  simp only [Bool.and_eq_true, decide_eq_true_eq] at hh
  have hj := cut_join 119 h hh.1
  have := two_of (b := 119) (by decide) hh.2.1 hh.2.2
  rw [← hj] at this
  exact this
theorem two_head {h : List UInt8} (h0 : 0 ≤ (two 119 h).1) (h1 : 0 ≤ (two 119 h).2) : headOk h = true := by
  obtain ⟨k1, k2, k3⟩ := two_inv h0
  rw [k3] at h0 h1
  unfold headOk
  rw [(spl_two k1).1, decide_eq_true h0, decide_eq_true h1]
  rfl
theorem mem_spl (b c : UInt8) (hc : c ≠ b) (s : List UInt8) : ∀ cur, c ∈ cur ++ s → ∃ w ∈ spl b cur s, c ∈ w := by
  induction s with
  | nil => intro cur h; exact ⟨cur, by simp [spl], by simpa using h⟩
  | cons x r ih =>
    intro cur h
    rw [show spl b cur (x :: r) = if x = b then cur :: spl b [] r else spl b (cur ++ [x]) r from rfl]
    by_cases e : x = b
    · rw [if_pos e]
      rcases List.mem_append.1 h with h | h
      · exact ⟨cur, List.mem_cons_self, h⟩
      · rcases List.mem_cons.1 h with h | h
        · exact absurd (h.trans e) hc
        · obtain ⟨w, hw, hcw⟩ := ih [] (by simpa using h)
          exact ⟨w, List.mem_cons_of_mem _ hw, hcw⟩
    · rw [if_neg e]
      exact ih (cur ++ [x]) (by simpa using h)
theorem sum_spl (b : UInt8) (s : List UInt8) : ∀ cur, ((spl b cur s).map fun w => w.length + 1).sum = cur.length + s.length + 1 := by
  induction s with
  | nil => intro cur; simp [spl]
  | cons x r ih =>
    intro cur
    rw [show spl b cur (x :: r) = if x = b then cur :: spl b [] r else spl b (cur ++ [x]) r from rfl]
    by_cases e : x = b
    · rw [if_pos e, List.map_cons, List.sum_cons, ih]; simp; omega
    · rw [if_neg e, ih]; simp; omega
theorem sum_le (ws : List (List UInt8)) (n : Nat) (h : ∀ w ∈ ws, w.length + 1 ≤ n) : (ws.map fun w => w.length + 1).sum ≤ n * ws.length := by
  induction ws with
  | nil => simp
  | cons w ws ih =>
    rw [List.map_cons, List.sum_cons, List.length_cons, Nat.mul_add, Nat.mul_one]
    have := h w (by simp)
    have := ih (fun x hx => h x (by simp [hx]))
    omega
theorem word_chars {w : List UInt8} (h : wordOk w = true) : (124 : UInt8) ∉ w := by
  obtain ⟨x, y, u, v, rfl, hx, hy, hu, hv, _⟩ := word_parts h
  have nx := no_sign (b := 124) (by decide) hx
  have ny := no_sign (b := 124) (by decide) hy
  have nu := no_sign (b := 124) (by decide) hu
  have nv := no_sign (b := 124) (by decide) hv
  simp [nx, ny, nu, nv]
theorem canon_len {l : List UInt8} (h : 0 ≤ canon l) (h1 : canon l < 100) : l.length ≤ 2 := by
  obtain ⟨e, _⟩ := dec_of_canon h
  rw [e]
  by_cases c : (canon l).toNat < 10
  · rw [Lib.decDigits_one c]; simp
  · rw [Lib.decDigits_two c (by omega)]; simp
theorem canon_len1 {l : List UInt8} (h : 0 ≤ canon l) (h1 : canon l < 10) : l.length ≤ 1 := by
  obtain ⟨e, _⟩ := dec_of_canon h
  rw [e, Lib.decDigits_one (by omega)]; simp
theorem word_len {w : List UInt8} (h : wordOk w = true) (h0 : (wordR w).f0 < 10) (h1 : (wordR w).f1 < 10) (h2 : (wordR w).f2 < 100) (h3 : (wordR w).f3 < 100) : w.length + 1 ≤ 10 := by
  obtain ⟨x, y, u, v, rfl, hx, hy, hu, hv, hr⟩ := word_parts h
  rw [hr] at h0 h1 h2 h3
  have := canon_len1 hx h0
  have := canon_len1 hy h1
  have := canon_len hu h2
  have := canon_len hv h3
  simp
  omega
/-- What a text that is a league is like. -/
theorem ok_text {l : List UInt8} (h : resL l ≠ zeroL) : l.length ≤ 600 ∧ (spl 124 [] l).length = 2 := by
  unfold resL at h
  cases ho : ((cutL 124 l).2.2 && (headOk (cutL 124 l).1 && restOk (cutL 124 l).2.1)) with
  | false => rw [ho] at h; exact absurd rfl h
  | true =>
    rw [ho] at h
    simp only [if_true] at h
    unfold fin at h
    cases hg : goodB (headT (cutL 124 l).1) (headW (cutL 124 l).1) (restR (cutL 124 l).2.1) with
    | false => rw [hg] at h; exact absurd rfl h
    | true =>
      have g := good_of hg
      simp only [Bool.and_eq_true] at ho
      obtain ⟨o1, o2, o3⟩ := ho
      have hj := cut_join 124 l o1
      have hjl := congrArg List.length hj
      simp only [List.length_append, List.length_cons] at hjl
      unfold headOk at o2
      simp only [Bool.and_eq_true, decide_eq_true_eq] at o2
      have hh := congrArg List.length (cut_join 119 _ o2.1)
      simp only [List.length_append, List.length_cons] at hh
      have ga := g.ha
      have ga2 := g.ha
      have gb := g.hb
      unfold headT at ga
      unfold headW at gb
      have l1 := canon_len1 o2.2.1 (by omega)
      have l2 := canon_len1 o2.2.2 (by omega)
      by_cases hg0 : (cutL 124 l).2.1 = []
      · have e0 : (cutL 124 l).2.1.length = 0 := by rw [hg0]; rfl
        refine ⟨by omega, ?_⟩
        rw [spl_cut, if_pos o1, hg0]
        simp [spl]
      · unfold restOk at o3
        rw [decide_eq_false hg0, Bool.false_or] at o3
        have hall := List.all_eq_true.1 o3
        have hR : restR (cutL 124 l).2.1 = (spl 44 [] (cutL 124 l).2.1).map wordR := if_neg hg0
        have hcnt := g.hl
        rw [hR, List.length_map] at hcnt
        have hlen := sum_le (spl 44 [] (cutL 124 l).2.1) 10 (fun w hw => by
          have hm := g.mem (r := wordR w) (by rw [hR]; exact List.mem_map.2 ⟨w, hw, rfl⟩)
          exact word_len (hall w hw) (by omega) (by omega) (by omega) (by omega))
        rw [sum_spl] at hlen
        simp only [List.length_nil, Nat.zero_add] at hlen
        have hn : (124 : UInt8) ∉ (cutL 124 l).2.1 := fun q => by
          obtain ⟨w, hw, hc⟩ := mem_spl 44 124 (by decide) (cutL 124 l).2.1 [] (by simpa using q)
          exact word_chars (hall w hw) hc
        refine ⟨by omega, ?_⟩
        rw [spl_cut, if_pos o1, spl_cut, cut_not_mem hn]
        simp
theorem specL_val (h g : List UInt8) : (if g = [] then fin (two 119 h).1 (two 119 h).2 [] else (if (spl 44 [] g).all specOk = true then fin (two 119 h).1 (two 119 h).2 ((spl 44 [] g).map specW) else zeroL)) =
    (if (headOk h && restOk g) = true then fin (headT h) (headW h) (restR g) else zeroL) := by
  cases hh : headOk h with
  | false =>
    simp only [Bool.false_and, Bool.false_eq_true, if_false]
    have hz : ∀ L, fin (two 119 h).1 (two 119 h).2 L = zeroL := fun L => by
      unfold fin
      refine if_neg fun q => ?_
      have gq := good_of q
      have := gq.ha
      have := gq.hb
      have := two_head (h := h) (by omega) (by omega)
      rw [hh] at this
      cases this
    rw [hz, hz]
    simp
  | true =>
    rw [head_two hh]
    simp only [Bool.true_and]
    unfold restOk restR
    by_cases hg : g = []
    · rw [if_pos hg, decide_eq_true hg, Bool.true_or, if_pos hg]
      simp
    · rw [if_neg hg, decide_eq_false hg, Bool.false_or, if_neg hg]
      cases ha : (spl 44 [] g).all wordOk with
      | true =>
        have hall := List.all_eq_true.1 ha
        rw [if_pos (List.all_eq_true.2 fun w hw => (word_spec (hall w hw)).1)]
        simp only [if_true]
        congr 1
        exact List.map_congr_left fun w hw => (word_spec (hall w hw)).2
      | false =>
        simp only [Bool.false_eq_true, if_false]
        cases hs : (spl 44 [] g).all specOk with
        | false => simp
        | true =>
          simp only [if_true]
          unfold fin
          refine if_neg fun q => ?_
          have gq := good_of q
          have hall := List.all_eq_true.1 hs
          have : (spl 44 [] g).all wordOk = true := List.all_eq_true.2 fun w hw => by
            have hm := gq.mem (r := specW w) (List.mem_map.2 ⟨w, hw, rfl⟩)
            exact spec_word (hall w hw) hm.1.1 hm.2.1.1 hm.2.2.2.1.1 hm.2.2.2.2.1
          rw [ha] at this
          cases this
theorem specL_ev (l : List UInt8) (hl : l.length ≤ 1048576) : Ev (fun k => spec_ParseLeague.f k (mkB l)) (resL l) := by
  have hsplit := split_ev (mkB l) (by rw [mkB_size]; exact hl) 124
  rw [mkB_data] at hsplit
  rw [show ((124 : UInt8).toNat : Int) = 124 from rfl] at hsplit
  have flat : ∀ (x : Bool), Ev (fun k => spec_lgParse.j0 k ((spl 124 [] l).map mkB) x) (resL l) →
      x = (if ((mkB l).size : Int) > 600 then true else ((((spl 124 [] l).map mkB).length : Int) != 2)) → Ev (fun k => spec_ParseLeague.f k (mkB l)) (resL l) := by
    intro x hx he
    unfold spec_ParseLeague.f
    refine Ev.bind (a := resL l) ?_ (Ev.now _)
    unfold spec_lgParse.f
    refine Ev.bind hsplit ?_
    by_cases c : ((mkB l).size : Int) > 600
    · simp only [if_pos c] at he ⊢
      subst he; exact hx
    · simp only [if_neg c] at he ⊢
      subst he; exact hx
  have bad : resL l = zeroL → Ev (fun k => spec_lgParse.j0 k ((spl 124 [] l).map mkB) true) (resL l) := fun h => by
    rw [h]
    exact ev_some fun k => by simp [spec_lgParse.j0, zeroL]
  by_cases c4 : ((mkB l).size : Int) > 600
  · refine flat true (bad ?_) (by rw [if_pos c4])
    by_cases q : resL l = zeroL
    · exact q
    · have := (ok_text q).1; rw [mkB_size] at c4; omega
  · by_cases c2 : (spl 124 [] l).length = 2
    · refine flat false ?_ (by rw [if_neg c4, List.length_map, c2]; rfl)
      obtain ⟨k1, k2, k3⟩ := spl_two c2
      obtain ⟨z1, z2⟩ := cut_sizes 124 l
      have hj := congrArg List.length (cut_join 124 l k1)
      simp only [List.length_append, List.length_cons] at hj
      have ht := two_ev 119 (cutL 124 l).1 (by omega)
      rw [show ((119 : UInt8).toNat : Int) = 119 from rfl] at ht
      have hv := specL_val (cutL 124 l).1 (cutL 124 l).2.1
      have hres : resL l = _ := show resL l = (if (headOk (cutL 124 l).1 && restOk (cutL 124 l).2.1) = true then fin (headT (cutL 124 l).1) (headW (cutL 124 l).1) (restR (cutL 124 l).2.1) else zeroL) by
        unfold resL
        rw [k1, Bool.true_and]
      rw [hres, ← hv, k3]
      simp only [List.map_cons, List.map_nil]
      have q0 : rdOf ByteArray.empty [mkB (cutL 124 l).1, mkB (cutL 124 l).2.1] 0 = mkB (cutL 124 l).1 := rfl
      have q1 : rdOf ByteArray.empty [mkB (cutL 124 l).1, mkB (cutL 124 l).2.1] 1 = mkB (cutL 124 l).2.1 := rfl
      refine Ev.step (f := fun k => (spec_lgTwo.f k (mkB (cutL 124 l).1) 119).bind fun bt137 => (if (mkB (cutL 124 l).2.1).toList = ([] : List UInt8) then ((spec_lgGood.f k bt137.1 bt137.2 ([] : List (S53))).bind fun t141 => (if t141 = true then (some (bt137.1, bt137.2, ([] : List (S53)), true)) else (some (0, 0, ([] : List (S53)), false)))) else ((spec_l1Split.f k (mkB (cutL 124 l).2.1) 44).bind fun t143 => (spec_lgParse.l0 k t143 (t143.length : Int) 0 bt137.1 bt137.2 ([] : List (S53)))))) (fun k => ?_) ?_
      · simp only [spec_lgParse.j0, q0, q1]
        simp
      · refine Ev.bind ht ?_
        by_cases hg : (cutL 124 l).2.1 = []
        · simp only [if_pos ((empty_iff _).2 hg), if_pos hg]
          refine Ev.bind (lgGood_ev _ _ [] (by simp)) ?_
          unfold fin zeroL
          cases goodB (two 119 (cutL 124 l).1).1 (two 119 (cutL 124 l).1).2 [] <;> exact Ev.now _
        · simp only [if_neg (fun q => hg ((empty_iff _).1 q)), if_neg hg]
          have hs2 := split_ev (mkB (cutL 124 l).2.1) (by rw [mkB_size]; omega) 44
          rw [mkB_data] at hs2
          rw [show ((44 : UInt8).toNat : Int) = 44 from rfl] at hs2
          refine Ev.bind hs2 ?_
          simp only [List.length_map]
          obtain ⟨s1, s2, s3⟩ := spl_sizes 44 (cutL 124 l).2.1 []
          have := specW_l0 (spl 44 [] (cutL 124 l).2.1) (by omega) (fun w hw => by have := s1 w hw; simp at this; omega) (two 119 (cutL 124 l).1).1 (two 119 (cutL 124 l).1).2 (spl 44 [] (cutL 124 l).2.1).length 0 [] (by omega) rfl
          simpa using this
    · refine flat true (bad ?_) (by rw [if_neg c4, List.length_map]; symm; exact bne_iff_ne.2 (by omega))
      by_cases q : resL l = zeroL
      · exact q
      · exact absurd (ok_text q).2 c2
theorem resL_len (l : List UInt8) : (resL l).2.2.1.length ≤ 1048576 := by
  unfold resL
  split
  · unfold fin
    cases hg : goodB (headT (cutL 124 l).1) (headW (cutL 124 l).1) (restR (cutL 124 l).2.1) with
    | false => simp [zeroL]
    | true =>
      have := (good_of hg).hl
      show (restR (cutL 124 l).2.1).length ≤ 1048576
      omega
  · simp [zeroL]

theorem FnExactParseLeague : ∀ (a0 : ByteArray), a0.size ≤ 140737488351232 → ∃ k, laws_FnExactParseLeague.f k a0 = some true := by
  intro s hs
  refine Ev.rounds ?_
  unfold laws_FnExactParseLeague.f
  by_cases c : (s.size : Int) > 1048576
  · simp only [if_pos c]
    exact Ev.now _
  · simp only [if_neg c]
    have hl : s.data.toList.length ≤ 1048576 := by rw [size_list]; omega
    have hsp := specL_ev s.data.toList hl
    have him := implL_ev s.data.toList hl
    have hv := resL_len s.data.toList
    rw [mkB_of s] at hsp him
    generalize resL s.data.toList = r at hsp him hv
    obtain ⟨p, q, v, f⟩ := r
    simp only at hv
    have hm := markResS_ev p q v hv
    have hh := heldResS_ev p q v.length hv
    have he := eqLeague_ev p q v hv
    have h2 : Ev (fun k => laws_FnExactParseLeague.j1 k (1 + 4 * (v.length : Int)) false p q (seqR 1 v.length)) true := by
      refine Ev.step (f := fun k => (laws_heldLeague.f k p q (seqR 1 v.length) 1).bind fun t => if t < 0 then some false else if t = 1 + 4 * (v.length : Int) then some true else some false) (fun k => by simp [laws_FnExactParseLeague.j1]) ?_
      refine Ev.bind hh ?_
      simp only [if_neg (show ¬ (1 + 4 * (v.length : Int)) < 0 by omega), if_true]
      exact Ev.now _
    have h1 : Ev (fun k => laws_FnExactParseLeague.j0 k s f false p q v p q v) true := by
      refine Ev.step (f := fun k => (laws_markLeague.f k p q v 1).bind fun m => (laws_heldLeague.f k p q m.2 1).bind fun t => if t < 0 then some false else if t = m.1 then (impl_ParseLeague.f k s).bind fun z => (laws_eqLeague.f k z.1 z.2.1 z.2.2.1 p q v).bind fun u => if u = true then laws_FnExactParseLeague.j1 k m.1 (z.2.2.2 != f) p q m.2 else laws_FnExactParseLeague.j1 k m.1 true p q m.2 else some false) (fun k => by simp [laws_FnExactParseLeague.j0]) ?_
      refine Ev.bind hm ?_
      refine Ev.bind hh ?_
      simp only [if_neg (show ¬ (1 + 4 * (v.length : Int)) < 0 by omega), if_true]
      refine Ev.bind him ?_
      refine Ev.bind he ?_
      simpa using h2
    refine Ev.bind hsp ?_
    refine Ev.bind him ?_
    refine Ev.bind he ?_
    simpa using h1

end Go.Proofs.YtahejnleejiobaaDoor.Pure
