/- What the printed functions of FnExactParseRace compute answers true, at every argument of its types. No condition beside the types' own bounds. -/
import Derived.Test.YtahejnleejiobaaDoorQFnExactParseRacex
namespace Go.Proofs.YtahejnleejiobaaDoor.Pure
open Go.RowKit Go.Proofs.YtahejnleejiobaaDoor.QFnExactParseRace Go.Proofs.YtahejnleejiobaaDoorW.PrintWords Go.Proofs.YtahejnleejiobaaDoorW.PrintLast Go.Proofs.YtahejnleejiobaaDoorW.PrintMore
set_option linter.unusedVariables false
set_option linter.unusedSimpArgs false
set_option linter.unusedSectionVars false

theorem ev_some {α : Type} {g : Nat → Option α} {r : α} (h : ∀ k, g (k + 1) = some r) : Ev g r := Ev.step h (Ev.now r)
theorem ev_const {α : Type} {g : Nat → Option α} {r : α} (h : ∀ k, g k = some r) : Ev g r := ⟨0, fun k _ => h k⟩
theorem wrap_id {i : Int} (h0 : -9223372036854775808 ≤ i) (h1 : i ≤ 9223372036854775807) : wrap64 i = i := by unfold wrap64; omega

/-! decimal numbers of at most six digits: what the program takes for one, and what the reference takes -/
def isD (c : UInt8) : Bool := decide (48 ≤ c.toNat ∧ c.toNat ≤ 57)
def valStep (a : Nat) (c : UInt8) : Nat := a * 10 + (c.toNat - 48)
def valF (acc : Nat) (l : List UInt8) : Nat := l.foldl valStep acc
theorem val_cons (acc : Nat) (c : UInt8) (r : List UInt8) : valF acc (c :: r) = valF (acc * 10 + (c.toNat - 48)) r := List.foldl_cons ..
theorem val_nil (acc : Nat) : valF acc [] = acc := List.foldl_nil ..
theorem val_one (c : UInt8) : valF 0 [c] = c.toNat - 48 := by rw [val_cons, val_nil, Nat.zero_mul, Nat.zero_add]
def canonOk (l : List UInt8) : Bool := decide (1 ≤ l.length ∧ l.length ≤ 6) && (!(decide (l.head? = some 48) && decide (1 < l.length)) && l.all isD)
def canon (l : List UInt8) : Int := if canonOk l = true then (valF 0 l : Int) else -1
theorem isD_iff {c : UInt8} : isD c = true ↔ 48 ≤ c.toNat ∧ c.toNat ≤ 57 := by unfold isD; exact decide_eq_true_iff
theorem val_snoc (l : List UInt8) (c : UInt8) (acc : Nat) : valF acc (l ++ [c]) = valF acc l * 10 + (c.toNat - 48) := by
  unfold valF
  rw [List.foldl_append, List.foldl_cons, List.foldl_nil]
  rfl
theorem pow_succ_le {p a b : Nat} (h : a ≤ b * 10) : a * p ≤ b * (p * 10) := by
  have := Nat.mul_le_mul_right p h
  rw [Nat.mul_assoc, Nat.mul_comm 10 p] at this
  exact this
theorem val_lt (l : List UInt8) : ∀ (acc : Nat), l.all isD = true → valF acc l + 1 ≤ (acc + 1) * 10 ^ l.length := by
  induction l with
  | nil =>
    intro acc _
    rw [List.length_nil, Nat.pow_zero, Nat.mul_one, val_nil]
    exact Nat.le_refl _
  | cons c r ih =>
    intro acc h
    rw [List.all_cons, Bool.and_eq_true] at h
    have hc := isD_iff.1 h.1
    have h1 : acc * 10 + (c.toNat - 48) + 1 ≤ (acc + 1) * 10 := by omega
    rw [val_cons, List.length_cons, Nat.pow_succ]
    exact Nat.le_trans (ih _ h.2) (pow_succ_le h1)
theorem val_ge (l : List UInt8) : ∀ acc : Nat, acc ≤ valF acc l := by
  induction l with
  | nil => intro acc; rw [val_nil]; exact Nat.le_refl _
  | cons c r ih =>
    intro acc
    have h1 : acc ≤ acc * 10 + (c.toNat - 48) := by omega
    rw [val_cons]
    exact Nat.le_trans h1 (ih _)
theorem pow_le6 {n : Nat} (h : n ≤ 6) : 10 ^ n ≤ 1000000 := Nat.pow_le_pow_right (by omega) h
theorem canonOk_parts {l : List UInt8} (h : canonOk l = true) : (1 ≤ l.length ∧ l.length ≤ 6) ∧ (l.head? = some 48 → l.length = 1) ∧ l.all isD = true := by
  unfold canonOk at h
  rw [Bool.and_eq_true, Bool.and_eq_true] at h
  obtain ⟨h1, h2, h3⟩ := h
  have h1' := of_decide_eq_true h1
  refine ⟨h1', fun e => ?_, h3⟩
  rw [decide_eq_true e, Bool.true_and] at h2
  have : ¬ 1 < l.length := by simpa using h2
  omega
theorem val_small {l : List UInt8} (h : canonOk l = true) : valF 0 l ≤ 999999 := by
  obtain ⟨h1, _, h3⟩ := canonOk_parts h
  have h2 := val_lt l 0 h3
  have := pow_le6 h1.2
  omega
theorem dig_back {c : UInt8} (h : isD c = true) : UInt8.ofNat (48 + (c.toNat - 48)) = c := by
  have := isD_iff.1 h
  rw [show 48 + (c.toNat - 48) = c.toNat by omega]
  exact UInt8.ofNat_toNat
theorem parse_ok (l : List UInt8) : ∀ (acc : Nat), l.all isD = true → (acc + 1) * 10 ^ l.length ≤ 1000000000000 → Lib.parseUint10 acc l = .ok (valF acc l) := by
  induction l with
  | nil => intro acc _ _; rw [val_nil]; rfl
  | cons c r ih =>
    intro acc h hb
    rw [List.all_cons, Bool.and_eq_true] at h
    have hc := isD_iff.1 h.1
    rw [List.length_cons, Nat.pow_succ] at hb
    have h1 : (acc * 10 + (c.toNat - 48) + 1) * 10 ^ r.length ≤ (acc + 1) * (10 ^ r.length * 10) := pow_succ_le (by omega)
    have h5 : acc * 10 + (c.toNat - 48) + 1 ≤ (acc * 10 + (c.toNat - 48) + 1) * 10 ^ r.length := Nat.le_mul_of_pos_right _ (Nat.pow_pos (by omega))
    have h6 : acc * 10 + (c.toNat - 48) + 1 ≤ 1000000000000 := Nat.le_trans h5 (Nat.le_trans h1 hb)
    simp only [Lib.parseUint10]
    rw [if_pos hc, if_neg (by omega), if_neg (by omega), val_cons]
    exact ih _ h.2 (Nat.le_trans h1 hb)
theorem atoi_canon {l : List UInt8} (h : canonOk l = true) : Lib.atoiAll l = .ok (valF 0 l : Int) := by
  obtain ⟨h1, _, h3⟩ := canonOk_parts h
  have hs := val_small h
  have hp : Lib.parseUint10 0 l = .ok (valF 0 l) := parse_ok l 0 h3 (by have := pow_le6 h1.2; omega)
  cases l with
  | nil => simp at h1
  | cons c r =>
    rw [List.all_cons, Bool.and_eq_true] at h3
    have hc := isD_iff.1 h3.1
    unfold Lib.atoiAll
    simp only
    rw [if_neg (by omega)]
    unfold Lib.parseMag
    rw [if_neg (by simp), hp]
    simp only
    rw [if_neg (by omega), if_neg (by omega), if_neg (by omega)]
theorem dec_val : ∀ (n : Nat) (l : List UInt8), l.length = n → l ≠ [] → l.all isD = true → (l.head? = some 48 → l.length = 1) → Lib.decDigits (valF 0 l) = l := by
  intro n
  induction n with
  | zero => intro l hl hne; exact absurd (List.length_eq_zero_iff.1 hl) hne
  | succ n ih =>
    intro l hl hne hd hz
    obtain ⟨p, c, rfl⟩ : ∃ p c, l = p ++ [c] := ⟨l.dropLast, l.getLast hne, (List.dropLast_concat_getLast hne).symm⟩
    rw [List.all_append, Bool.and_eq_true] at hd
    have hc1 : isD c = true := by simpa using hd.2
    have hc := isD_iff.1 hc1
    rw [val_snoc]
    cases p with
    | nil =>
      rw [List.nil_append, val_nil, Nat.zero_mul, Nat.zero_add, Lib.decDigits_one (by omega), dig_back hc1]
    | cons x xs =>
      have hx : x ≠ 48 := by
        rintro rfl
        have := hz rfl
        simp at this
      have hxd : isD x = true := by rw [List.all_cons, Bool.and_eq_true] at hd; exact hd.1.1
      have hxn := isD_iff.1 hxd
      have hx49 : 49 ≤ x.toNat := by
        rcases Nat.lt_or_ge 48 x.toNat with q | q
        · exact q
        · exact absurd (UInt8.toNat_inj.1 (by rw [show x.toNat = 48 by omega]; rfl)) hx
      have hv : 1 ≤ valF 0 (x :: xs) := by
        have := val_ge xs (0 * 10 + (x.toNat - 48))
        rw [val_cons]
        omega
      have hr := ih (x :: xs) (by simp at hl ⊢; omega) (by simp) hd.1 (fun e => by simp at e; exact absurd e hx)
      generalize valF 0 (x :: xs) = v at hv hr
      rw [Lib.decDigits, dif_neg (by omega), show (v * 10 + (c.toNat - 48)) / 10 = v by omega, show (v * 10 + (c.toNat - 48)) % 10 = c.toNat - 48 by omega, hr, dig_back hc1]
theorem dec_canon {l : List UInt8} (h : canonOk l = true) : Lib.decDigits (valF 0 l) = l := by
  obtain ⟨h1, h2, h3⟩ := canonOk_parts h
  exact dec_val l.length l rfl (by rintro rfl; simp at h1) h3 h2
theorem dig_of {d : Nat} (h : d < 10) : isD (UInt8.ofNat (48 + d)) = true ∧ (UInt8.ofNat (48 + d)).toNat - 48 = d ∧ (1 ≤ d → UInt8.ofNat (48 + d) ≠ 48) := by
  have e : (UInt8.ofNat (48 + d)).toNat = 48 + d := by rw [UInt8.toNat_ofNat']; omega
  refine ⟨isD_iff.2 (by omega), by omega, fun hd q => ?_⟩
  rw [q] at e
  have : (48 : UInt8).toNat = 48 := rfl
  omega
theorem dec_facts (n : Nat) : (Lib.decDigits n) ≠ [] ∧ (Lib.decDigits n).all isD = true ∧ valF 0 (Lib.decDigits n) = n ∧ (1 ≤ n → (Lib.decDigits n).head? ≠ some 48 ∧ 10 ^ ((Lib.decDigits n).length - 1) ≤ n) ∧ (n = 0 → (Lib.decDigits n).length = 1) := by
  induction n using Nat.strongRecOn with
  | ind n ih =>
    by_cases h : n < 10
    · obtain ⟨d1, d2, d3⟩ := dig_of h
      rw [Lib.decDigits_one h]
      refine ⟨by simp, by rw [List.all_cons, d1]; rfl, by rw [val_one]; exact d2, fun h1 => ⟨fun q => d3 h1 (by simpa using q), by simpa using h1⟩, fun _ => rfl⟩
    · obtain ⟨i1, i2, i3, i4, _⟩ := ih (n / 10) (by omega)
      obtain ⟨d1, d2, d3⟩ := dig_of (show n % 10 < 10 by omega)
      rw [Lib.decDigits, dif_neg h]
      obtain ⟨j1, j2⟩ := i4 (by omega)
      have hl : 1 ≤ (Lib.decDigits (n / 10)).length := by
        cases hh : Lib.decDigits (n / 10) with
        | nil => exact absurd hh i1
        | cons _ _ => simp
      refine ⟨by simp, by rw [List.all_append, i2, List.all_cons, d1]; rfl, by rw [val_snoc, i3, d2]; omega, fun _ => ⟨?_, ?_⟩, fun q => by omega⟩
      · cases hh : Lib.decDigits (n / 10) with
        | nil => exact absurd hh i1
        | cons x xs =>
          rw [hh] at j1
          simpa using j1
      · rw [List.length_append, List.length_singleton, Nat.add_sub_cancel]
        obtain ⟨m, hm⟩ : ∃ m, (Lib.decDigits (n / 10)).length = m + 1 := ⟨_, (Nat.sub_add_cancel hl).symm⟩
        rw [hm] at j2 ⊢
        rw [Nat.add_sub_cancel] at j2
        rw [Nat.pow_succ]
        omega
theorem canon_dec {n : Nat} (h : n ≤ 999999) : canonOk (Lib.decDigits n) = true ∧ valF 0 (Lib.decDigits n) = n := by
  obtain ⟨i1, i2, i3, i4, i5⟩ := dec_facts n
  refine ⟨?_, i3⟩
  have hl : 1 ≤ (Lib.decDigits n).length := by
    cases hh : Lib.decDigits n with
    | nil => exact absurd hh i1
    | cons _ _ => simp
  unfold canonOk
  rw [i2, Bool.and_true, Bool.and_eq_true]
  rcases Nat.eq_zero_or_pos n with h0 | h0
  · have := i5 h0
    exact ⟨decide_eq_true (by omega), by rw [decide_eq_false (p := 1 < _) (by omega), Bool.and_false]; rfl⟩
  · obtain ⟨j1, j2⟩ := i4 h0
    have h6 : (Lib.decDigits n).length ≤ 6 := by
      rcases Nat.lt_or_ge 6 (Lib.decDigits n).length with q | q
      · have := Nat.pow_le_pow_right (n := 10) (by omega) (show 6 ≤ (Lib.decDigits n).length - 1 by omega)
        omega
      · exact q
    exact ⟨decide_eq_true ⟨hl, h6⟩, by rw [decide_eq_false j1]; rfl⟩
/-- What impl.number answers. -/
theorem number_eq (s : ByteArray) (most : Int) (h0 : 0 ≤ most) (h1 : most ≤ 999999) : number.v s most = if 0 ≤ canon s.data.toList ∧ canon s.data.toList ≤ most then (canon s.data.toList, true) else (0, false) := by
  unfold canon
  by_cases c : canonOk s.data.toList = true
  · rw [if_pos c]
    have hs := val_small c
    unfold number.v
    rw [atoi_canon c]
    have hi : Lib.itoa ((valF 0 s.data.toList : Nat) : Int) = s.data.toList := by
      rw [show Lib.itoa ((valF 0 s.data.toList : Nat) : Int) = Lib.decDigits (valF 0 s.data.toList) by unfold Lib.itoa; rw [if_neg (by omega)]; simp]
      exact dec_canon c
    simp only [hi, true_and]
  · rw [if_neg c, if_neg (by omega)]
    unfold number.v
    split
    · rename_i v hv
      refine if_neg ?_
      rintro ⟨q1, q2, q3⟩
      apply c
      have e : Lib.itoa v = Lib.decDigits v.toNat := by unfold Lib.itoa; rw [if_neg (by omega)]
      rw [← q1, e]
      exact (canon_dec (by omega)).1
    · rfl
theorem bt_list (s : ByteArray) (i : Nat) (h : i < s.size) : bt s (i : Int) = ((s.data.toList[i]'(by rw [Array.length_toList]; exact h)).toNat : Int) := by
  unfold bt
  rw [dif_pos (by simpa using h)]
  simp
  rfl
theorem size_list (s : ByteArray) : s.data.toList.length = s.size := Array.length_toList
theorem l1In_eq (a b c : Int) : spec_l1In.f a b c = some (decide (b ≤ a ∧ a ≤ c)) := by
  unfold spec_l1In.f
  by_cases h : a ≥ b
  · rw [if_pos h]; congr 1; simp only [decide_eq_decide]; omega
  · rw [if_neg h]; congr 1; exact (decide_eq_false (by omega)).symm
theorem read_l0 (s : ByteArray) (hs : s.size ≤ 6) (d : Nat) : ∀ (i acc : Nat), i + d = s.size → (acc + 1) * 10 ^ d ≤ 1000000 →
    Ev (fun k => spec_l1Read.l0 k s (acc : Int) (i : Int)) (if (s.data.toList.drop i).all isD = true then (valF acc (s.data.toList.drop i) : Int) else -1) := by
  induction d with
  | zero =>
    intro i acc hi _
    refine ev_some fun k => ?_
    simp only [spec_l1Read.l0]
    rw [if_neg (by omega), List.drop_of_length_le (by rw [size_list]; omega), val_nil]
    rfl
  | succ d ih =>
    intro i acc hi hb
    have hlt : i < s.size := by omega
    have hll : i < s.data.toList.length := by rw [size_list]; exact hlt
    have hbt := bt_list s i hlt
    rw [List.drop_eq_getElem_cons hll, List.all_cons]
    by_cases c : isD s.data.toList[i] = true
    · have hc := isD_iff.1 c
      rw [Nat.pow_succ] at hb
      have h1 : (acc * 10 + (s.data.toList[i].toNat - 48) + 1) * 10 ^ d ≤ (acc + 1) * (10 ^ d * 10) := pow_succ_le (by omega)
      have h5 : acc * 10 + (s.data.toList[i].toNat - 48) + 1 ≤ (acc * 10 + (s.data.toList[i].toNat - 48) + 1) * 10 ^ d := Nat.le_mul_of_pos_right _ (Nat.pow_pos (by omega))
      have h6 : acc * 10 + (s.data.toList[i].toNat - 48) + 1 ≤ 1000000 := Nat.le_trans h5 (Nat.le_trans h1 hb)
      rw [c, Bool.true_and]
      refine Ev.step (fun k => ?_) (ih (i + 1) (acc * 10 + (s.data.toList[i].toNat - 48)) (by omega) (Nat.le_trans h1 hb))
      simp only [spec_l1Read.l0]
      rw [if_pos (by omega), if_pos (by omega), hbt, if_neg (by omega), if_neg (by omega), wrap_id (i := 10 * (acc : Int)) (by omega) (by omega), wrap_id (i := (i : Int) + 1) (by omega) (by omega),
        show ((s.data.toList[i].toNat : Int) - 48) % 256 = (s.data.toList[i].toNat : Int) - 48 from Int.emod_eq_of_lt (by omega) (by omega), wrap_id (by omega) (by omega)]
      congr 1
      omega
    · have hc : ¬ (48 ≤ s.data.toList[i].toNat ∧ s.data.toList[i].toNat ≤ 57) := fun q => c (isD_iff.2 q)
      rw [show isD s.data.toList[i] = false by simpa using c, Bool.false_and]
      refine ev_some fun k => ?_
      simp only [spec_l1Read.l0]
      rw [if_pos (by omega), if_pos (by omega), hbt]
      by_cases q : (s.data.toList[i].toNat : Int) < 48
      · rw [if_pos q]; rfl
      · rw [if_neg q, if_pos (by omega)]; rfl
theorem read_ev (s : ByteArray) (hs : s.size ≤ 9223372036854775807) : Ev (fun k => spec_l1Read.f k s) (canon s.data.toList) := by
  unfold spec_l1Read.f
  simp only [l1In_eq, Option.bind_some]
  have bad : Ev (fun k => spec_l1Read.j0 k s true) (-1) := ev_some fun k => by simp [spec_l1Read.j0]
  have good : s.size ≤ 6 → Ev (fun k => spec_l1Read.j0 k s false) (if s.data.toList.all isD = true then (valF 0 s.data.toList : Int) else -1) := fun h6 => by
    refine Ev.step (f := fun k => spec_l1Read.l0 k s 0 0) (fun k => by simp [spec_l1Read.j0]) ?_
    have := read_l0 s h6 s.size 0 0 (by omega) (by have := pow_le6 h6; omega)
    simpa using this
  unfold canon canonOk
  rw [size_list]
  by_cases c : 1 ≤ s.size ∧ s.size ≤ 6
  · rw [decide_eq_true (p := 1 ≤ s.size ∧ s.size ≤ 6) c, show decide ((1 : Int) ≤ (s.size : Int) ∧ (s.size : Int) ≤ 6) = true from decide_eq_true (by omega), Bool.true_and]
    simp only [if_true]
    have hb := bt_list s 0 (by omega)
    have hh : s.data.toList.head? = some (s.data.toList[0]'(by rw [size_list]; omega)) := List.head?_eq_getElem? .. |>.trans (List.getElem?_eq_getElem _)
    rw [hh]
    simp only [if_pos (show (0 : Int) < (s.size : Int) by omega), show bt s 0 = _ from hb]
    by_cases z : s.data.toList[0]'(by rw [size_list]; omega) = 48
    · rw [z]
      simp only [show ((48 : UInt8).toNat : Int) = 48 from rfl, if_true, decide_true, Bool.true_and]
      by_cases o : 1 < s.size
      · rw [show decide ((s.size : Int) > 1) = true from decide_eq_true (by omega), decide_eq_true o]
        exact bad
      · rw [show decide ((s.size : Int) > 1) = false from decide_eq_false (by omega), decide_eq_false o]
        simpa using good c.2
    · have zn : ¬ (((s.data.toList[0]'(by rw [size_list]; omega)).toNat : Int) = 48) := fun q => z (UInt8.toNat_inj.1 (by have : (48 : UInt8).toNat = 48 := rfl; omega))
      simp only [if_neg zn]
      rw [show decide (some (s.data.toList[0]'(by rw [size_list]; omega)) = some 48) = false from decide_eq_false (fun q => z (Option.some.inj q))]
      simpa using good c.2
  · rw [decide_eq_false (p := 1 ≤ s.size ∧ s.size ≤ 6) c, show decide ((1 : Int) ≤ (s.size : Int) ∧ (s.size : Int) ≤ 6) = false from decide_eq_false (by omega), Bool.false_and]
    simpa using bad
/-! words between signs -/
def spl (b : UInt8) (cur : List UInt8) : List UInt8 → List (List UInt8)
  | [] => [cur]
  | c :: r => if c = b then cur :: spl b [] r else spl b (cur ++ [c]) r
def mkB (l : List UInt8) : ByteArray := ⟨l.toArray⟩
theorem mkB_data (l : List UInt8) : (mkB l).data.toList = l := by simp [mkB]
theorem mkB_size (l : List UInt8) : (mkB l).size = l.length := by rw [← size_list, mkB_data]
theorem ba_ext {a b : ByteArray} (h : a.data.toList = b.data.toList) : a = b := by
  apply ByteArray.ext
  exact Array.toList_inj.1 h
theorem mkB_of (s : ByteArray) : mkB s.data.toList = s := ba_ext (mkB_data _)
theorem extr (s : ByteArray) (f i : Nat) : s.extract f i = mkB ((s.data.toList.drop f).take (i - f)) := ba_ext (by rw [Lib.extract_data, mkB_data])
theorem split_l0 (s : ByteArray) (hs : s.size ≤ 1048576) (b : UInt8) (d : Nat) : ∀ (i f : Nat) (out : List ByteArray), i + d = s.size → f ≤ i → out.length ≤ i →
    Ev (fun k => spec_l1Split.l0 k s (b.toNat : Int) out (f : Int) (i : Int)) (out ++ (spl b ((s.data.toList.drop f).take (i - f)) (s.data.toList.drop i)).map mkB) := by
  induction d with
  | zero =>
    intro i f out hi hf ho
    refine ev_some fun k => ?_
    simp only [spec_l1Split.l0]
    rw [if_neg (by omega), if_pos (by omega), if_pos (by omega), if_pos (by omega), List.drop_of_length_le (i := i) (by rw [size_list]; omega)]
    rw [show (f : Int).toNat = f from rfl, extr, show i = s.size by omega]
    rfl
  | succ d ih =>
    intro i f out hi hf ho
    have hlt : i < s.size := by omega
    have hll : i < s.data.toList.length := by rw [size_list]; exact hlt
    have hbt := bt_list s i hlt
    rw [List.drop_eq_getElem_cons hll]
    have hw : wrap64 ((i : Int) + 1) = ((i + 1 : Nat) : Int) := by rw [wrap_id (by omega) (by omega)]; omega
    by_cases c : s.data.toList[i] = b
    · rw [spl, if_pos c, List.map_cons]
      have := ih (i + 1) (i + 1) (out ++ [mkB ((s.data.toList.drop f).take (i - f))]) (by omega) (by omega) (by simp; omega)
      rw [show i + 1 - (i + 1) = 0 by omega, List.take_zero, List.append_assoc] at this
      refine Ev.step (fun k => ?_) this
      simp only [spec_l1Split.l0]
      rw [if_pos (by omega), if_pos (by omega), hbt, c, if_pos rfl, if_pos (by omega), if_pos (by omega), if_pos (by omega), if_pos (by omega), hw, show (f : Int).toNat = f from rfl, show (i : Int).toNat = i from rfl, extr]
    · rw [spl, if_neg c]
      have := ih (i + 1) f out (by omega) (by omega) (by omega)
      have e : (s.data.toList.drop f).take (i + 1 - f) = (s.data.toList.drop f).take (i - f) ++ [s.data.toList[i]] := by
        rw [show i + 1 - f = (i - f) + 1 by omega, List.take_add_one, List.getElem?_drop, show f + (i - f) = i by omega, List.getElem?_eq_getElem hll]
        rfl
      rw [e] at this
      refine Ev.step (fun k => ?_) this
      simp only [spec_l1Split.l0]
      rw [if_pos (by omega), if_pos (by omega), hbt, if_neg (fun q => c (UInt8.toNat_inj.1 (by omega))), hw]
theorem split_ev (s : ByteArray) (hs : s.size ≤ 1048576) (b : UInt8) : Ev (fun k => spec_l1Split.f k s (b.toNat : Int)) ((spl b [] s.data.toList).map mkB) := by
  have := split_l0 s hs b s.size 0 0 [] (by omega) (by omega) (by simp)
  simpa [spec_l1Split.f] using this

/-! strings.Cut at one sign -/
def cutL (b : UInt8) : List UInt8 → List UInt8 × List UInt8 × Bool
  | [] => ([], [], false)
  | c :: r => if c = b then ([], r, true) else (c :: (cutL b r).1, (cutL b r).2.1, (cutL b r).2.2)
theorem cutL_no (b : UInt8) (s : List UInt8) : (cutL b s).2.2 = false → (cutL b s).1 = s ∧ (cutL b s).2.1 = [] := by
  induction s with
  | nil => intro _; exact ⟨rfl, rfl⟩
  | cons c r ih =>
    intro h
    unfold cutL at h ⊢
    by_cases e : c = b
    · rw [if_pos e] at h; cases h
    · rw [if_neg e] at h ⊢
      obtain ⟨h1, h2⟩ := ih h
      exact ⟨by rw [h1], h2⟩
theorem index_one (b : UInt8) (s : List UInt8) : Lib.index s [b] = if (cutL b s).2.2 = true then (((cutL b s).1).length : Int) else -1 := by
  induction s with
  | nil => rfl
  | cons c r ih =>
    have hp : List.isPrefixOf [b] (c :: r) = (b == c) := by simp [List.isPrefixOf]
    unfold Lib.index cutL
    rw [hp, ih]
    by_cases e : c = b
    · subst e
      simp
    · have e2 : (b == c) = false := beq_eq_false_iff_ne.2 (fun q => e q.symm)
      rw [e2, if_neg e]
      simp only [Bool.false_eq_true, if_false]
      cases (cutL b r).2.2 with
      | false => simp
      | true =>
        simp only [if_true]
        rw [if_neg (by first | (simp; done) | (simp; omega))]
        simp
theorem cut_join (b : UInt8) (s : List UInt8) : (cutL b s).2.2 = true → s = (cutL b s).1 ++ b :: (cutL b s).2.1 := by
  induction s with
  | nil => intro h; cases h
  | cons c r ih =>
    intro h
    unfold cutL at h ⊢
    by_cases e : c = b
    · rw [if_pos e]; subst e; rfl
    · rw [if_neg e] at h ⊢
      have := ih h
      show c :: r = c :: ((cutL b r).1 ++ b :: (cutL b r).2.1)
      rw [← this]
theorem cut_eq (b : UInt8) (s : List UInt8) : Lib.cut s [b] = cutL b s := by
  unfold Lib.cut
  rw [index_one]
  cases h : (cutL b s).2.2 with
  | false =>
    obtain ⟨h1, h2⟩ := cutL_no b s h
    simp only [Bool.false_eq_true, if_false]
    rw [if_neg (by omega)]
    refine Prod.ext h1.symm (Prod.ext h2.symm h.symm)
  | true =>
    have hj := cut_join b s h
    simp only [if_true]
    rw [if_pos (by omega)]
    have hg : ∀ p q : List UInt8, s = p ++ b :: q → s.take p.length = p ∧ s.drop (p.length + 1) = q := by
      rintro p q rfl
      exact ⟨by simp, by rw [List.drop_append]; simp⟩
    obtain ⟨g1, g2⟩ := hg _ _ hj
    exact Prod.ext g1 (Prod.ext g2 h.symm)
theorem cut_sizes (b : UInt8) (s : List UInt8) : (cutL b s).1.length ≤ s.length ∧ (cutL b s).2.1.length ≤ s.length := by
  cases h : (cutL b s).2.2 with
  | false => obtain ⟨h1, h2⟩ := cutL_no b s h; rw [h1, h2]; simp
  | true =>
    have hj := congrArg List.length (cut_join b s h)
    simp only [List.length_append, List.length_cons] at hj
    omega
theorem cut_first (b : UInt8) (s : List UInt8) : b ∉ (cutL b s).1 := by
  induction s with
  | nil => simp [cutL]
  | cons c r ih =>
    unfold cutL
    by_cases e : c = b
    · rw [if_pos e]; simp
    · rw [if_neg e]
      intro q
      rcases List.mem_cons.1 q with q | q
      · exact e q.symm
      · exact ih q
theorem spl_cut (b : UInt8) (s : List UInt8) : ∀ cur, spl b cur s = if (cutL b s).2.2 = true then (cur ++ (cutL b s).1) :: spl b [] (cutL b s).2.1 else [cur ++ s] := by
  induction s with
  | nil => intro cur; simp [spl, cutL]
  | cons c r ih =>
    intro cur
    rw [show spl b cur (c :: r) = if c = b then cur :: spl b [] r else spl b (cur ++ [c]) r from rfl, show cutL b (c :: r) = if c = b then ([], r, true) else (c :: (cutL b r).1, (cutL b r).2.1, (cutL b r).2.2) from rfl]
    by_cases e : c = b
    · rw [if_pos e, if_pos e]; simp
    · rw [if_neg e, if_neg e, ih]
      simp only [List.append_assoc, List.singleton_append]
theorem canon_sign {l : List UInt8} {b : UInt8} (hb : isD b = false) (h : b ∈ l) : canon l = -1 := by
  unfold canon
  refine if_neg fun c => ?_
  obtain ⟨_, _, h3⟩ := canonOk_parts c
  rw [List.all_eq_true.1 h3 b h] at hb
  cases hb
theorem cut_mem {b : UInt8} {l : List UInt8} (h : (cutL b l).2.2 = true) : b ∈ l := by
  have := cut_join b l h
  rw [this]
  simp
theorem cut_not_mem {b : UInt8} {l : List UInt8} (h : b ∉ l) : cutL b l = (l, [], false) := by
  have h2 : (cutL b l).2.2 = false := by
    cases q : (cutL b l).2.2 with
    | false => rfl
    | true => exact absurd (cut_mem q) h
  obtain ⟨h3, h4⟩ := cutL_no b l h2
  exact Prod.ext h3 (Prod.ext h4 h2)
theorem canon_le (l : List UInt8) : -1 ≤ canon l ∧ canon l ≤ 999999 := by
  unfold canon
  split
  · rename_i h
    have := val_small h
    omega
  · omega
def numV (most : Int) (l : List UInt8) : Int × Bool := if 0 ≤ canon l ∧ canon l ≤ most then (canon l, true) else (0, false)
theorem number_f (l : List UInt8) (hl : l.length ≤ 1048576) (most : Int) (h0 : 0 ≤ most) (h1 : most ≤ 999999) : impl_number.f (mkB l) most = some (numV most l) := by
  unfold impl_number.f
  rw [if_pos (by rw [mkB_size]; exact hl), number_eq _ _ h0 h1, mkB_data]
  rfl
theorem dec_of_canon {l : List UInt8} (h : 0 ≤ canon l) : l = Lib.decDigits (canon l).toNat ∧ canonOk l = true := by
  unfold canon at h ⊢
  by_cases c : canonOk l = true
  · rw [if_pos c]
    exact ⟨(dec_canon c).symm, c⟩
  · rw [if_neg c] at h
    omega

theorem cut_f (s : List UInt8) (hs : s.length ≤ 1048576) (b : UInt8) : strings_Cut.f (mkB s) ⟨#[b]⟩ = some (mkB (cutL b s).1, mkB (cutL b s).2.1, (cutL b s).2.2) := by
  unfold strings_Cut.f
  rw [if_pos (by rw [mkB_size]; exact hs), mkB_data]
  rw [show (⟨#[b]⟩ : ByteArray).data.toList = [b] from rfl, cut_eq]
  rfl

theorem within_eq (a b c : Int) : impl_within.f a b c = some (decide (b ≤ a ∧ a ≤ c)) := by
  unfold impl_within.f
  by_cases h : b ≤ a
  · rw [if_pos h]; congr 1; simp only [decide_eq_decide]; omega
  · rw [if_neg h]; congr 1; exact (decide_eq_false (by omega)).symm
def goodR (a b : Int) : Bool := decide (1 ≤ a ∧ a ≤ 30) && decide (1 ≤ b ∧ b ≤ 5)
theorem raGood_eq (a b : Int) : spec_raGood.f a b = some (goodR a b) := by
  unfold spec_raGood.f goodR
  simp only [l1In_eq, Option.bind_some]
  cases decide (1 ≤ a ∧ a ≤ 30) <;> rfl
theorem isRace_eq (a b : Int) : impl_IsRace.f a b = some (goodR a b) := by
  unfold impl_IsRace.f goodR
  simp only [within_eq, Option.bind_some]
  cases decide (1 ≤ a ∧ a ≤ 30) <;> rfl
theorem num_all : ∀ n : Nat, n < 100 → spec_l1Num.f 3 (n : Int) = some ⟨(Lib.decDigits n).toArray⟩ := by decide +kernel
theorem num_ev (z : Int) (h0 : 0 ≤ z) (h1 : z < 100) : Ev (fun k => spec_l1Num.f k z) (mkB (Lib.decDigits z.toNat)) := by
  have e : ((z.toNat : Nat) : Int) = z := Int.toNat_of_nonneg h0
  have := num_all z.toNat (by omega)
  rw [e] at this
  exact Ev.of (fun k => spec_l1Num.mono z k) this
theorem num_size (n : Nat) (h : n < 100) : (Lib.decDigits n).length ≤ 2 := by
  by_cases h1 : n < 10
  · rw [Lib.decDigits_one h1]; simp
  · rw [Lib.decDigits_two h1 h]; simp
theorem nums_ev (s : List UInt8) (hs : s.length ≤ 1048576) : Ev (fun k => impl_numbersOf.f k (mkB s) ⟨#[43]⟩)
    (if (cutL 43 s).2.2 = true then (if (numV 999999 (cutL 43 s).1).2 = true then ([(numV 999999 (cutL 43 s).1).1, (numV 999999 (cutL 43 s).2.1).1], (numV 999999 (cutL 43 s).2.1).2) else ([], false)) else ([], false)) := by
  obtain ⟨z1, z2⟩ := cut_sizes 43 s
  have hz : ((⟨#[43]⟩ : ByteArray).size : Int) = 1 := rfl
  unfold impl_numbersOf.f
  rw [hz]
  have hx : (⟨#[43]⟩ : ByteArray).extract ((0 : Int).toNat) (wrap64 (0 + 1)).toNat = ⟨#[43]⟩ := by rw [wrap_id (by omega) (by omega)]; rfl
  have hw1 : wrap64 (0 + 1) = 1 := wrap_id (by omega) (by omega)
  cases ho : (cutL 43 s).2.2 with
  | false =>
    simp only [Bool.false_eq_true, if_false]
    refine ev_some fun k => ?_
    simp only [impl_numbersOf.l0]
    rw [if_pos (by omega), if_pos (by omega), hx, cut_f s hs, if_pos (by omega), if_pos (by rw [hw1, hz]; omega), Option.bind_some]
    simp only
    rw [number_f _ (by omega) 999999 (by omega) (by omega), Option.bind_some, ho]
    rfl
  | true =>
    simp only [if_true]
    cases hn : (numV 999999 (cutL 43 s).1).2 with
    | false =>
      simp only [Bool.false_eq_true, if_false]
      refine ev_some fun k => ?_
      simp only [impl_numbersOf.l0]
      rw [if_pos (by omega), if_pos (by omega), hx, cut_f s hs, if_pos (by omega), if_pos (by rw [hw1, hz]; omega), Option.bind_some]
      simp only
      rw [number_f _ (by omega) 999999 (by omega) (by omega), Option.bind_some, ho, hn]
      rfl
    | true =>
      simp only [if_true]
      refine Ev.step (f := fun k => impl_numbersOf.l0 k (mkB (cutL 43 s).2.1) ⟨#[43]⟩ [(numV 999999 (cutL 43 s).1).1] 1 1) (fun k => ?_) ?_
      · simp only [impl_numbersOf.l0]
        rw [if_pos (by omega), if_pos (by omega), hx, cut_f s hs, if_pos (by omega), if_pos (by rw [hw1, hz]; omega), Option.bind_some]
        simp only
        rw [number_f _ (by omega) 999999 (by omega) (by omega), Option.bind_some, ho, hn, if_pos rfl, if_pos rfl, if_pos (by simp), hw1]
        rfl
      · refine ev_some fun k => ?_
        simp only [impl_numbersOf.l0]
        rw [if_neg (by omega), number_f _ (by omega) 999999 (by omega) (by omega), Option.bind_some, if_pos (by simp)]
        rfl
def okP (l : List UInt8) : Bool := (cutL 43 l).2.2 && goodR (canon (cutL 43 l).1) (canon (cutL 43 l).2.1)
def resP (l : List UInt8) : Int × Int × Bool := if okP l = true then (canon (cutL 43 l).1, canon (cutL 43 l).2.1, true) else (0, 0, false)
theorem good_parts {a b : Int} (h : goodR a b = true) : (1 ≤ a ∧ a ≤ 30) ∧ (1 ≤ b ∧ b ≤ 5) := by
  unfold goodR at h
  rw [Bool.and_eq_true] at h
  exact ⟨of_decide_eq_true h.1, of_decide_eq_true h.2⟩
theorem impl_ev (l : List UInt8) (hl : l.length ≤ 1048576) : Ev (fun k => impl_ParseRace.f k (mkB l)) (resP l) := by
  unfold impl_ParseRace.f
  refine Ev.bind (nums_ev l hl) ?_
  unfold resP okP
  cases ho : (cutL 43 l).2.2 with
  | false => simp only [Bool.false_eq_true, if_false, Bool.false_and]; exact Ev.now _
  | true =>
    simp only [if_true, Bool.true_and]
    have c1 := canon_le (cutL 43 l).1
    have c2 := canon_le (cutL 43 l).2.1
    by_cases p1 : 0 ≤ canon (cutL 43 l).1
    · have n1 : numV 999999 (cutL 43 l).1 = (canon (cutL 43 l).1, true) := if_pos ⟨p1, c1.2⟩
      rw [n1]
      simp only [if_true]
      by_cases p2 : 0 ≤ canon (cutL 43 l).2.1
      · have n2 : numV 999999 (cutL 43 l).2.1 = (canon (cutL 43 l).2.1, true) := if_pos ⟨p2, c2.2⟩
        rw [n2]
        simp only [if_true, List.length_cons, List.length_nil]
        rw [if_pos (by omega), if_pos (by omega)]
        have r0 : ∀ x y : Int, rd [x, y] 0 = x := fun _ _ => rfl
        have r1 : ∀ x y : Int, rd [x, y] 1 = y := fun _ _ => rfl
        simp only [r0, r1, isRace_eq, Option.bind_some]
        cases goodR (canon (cutL 43 l).1) (canon (cutL 43 l).2.1) <;> exact Ev.now _
      · have n2 : numV 999999 (cutL 43 l).2.1 = (0, false) := if_neg (fun q => p2 q.1)
        rw [n2]
        have hg : goodR (canon (cutL 43 l).1) (canon (cutL 43 l).2.1) = false := by
          cases q : goodR (canon (cutL 43 l).1) (canon (cutL 43 l).2.1) with
          | false => rfl
          | true => have := (good_parts q).2; omega
        rw [hg]
        simp only [Bool.false_eq_true, if_false]
        exact Ev.now _
    · have n1 : numV 999999 (cutL 43 l).1 = (0, false) := if_neg (fun q => p1 q.1)
      rw [n1]
      have hg : goodR (canon (cutL 43 l).1) (canon (cutL 43 l).2.1) = false := by
        cases q : goodR (canon (cutL 43 l).1) (canon (cutL 43 l).2.1) with
        | false => rfl
        | true => have := (good_parts q).1; omega
      rw [hg]
      simp only [Bool.false_eq_true, if_false]
      exact Ev.now _
theorem text_ev (a b : Int) (h : goodR a b = true) : Ev (fun k => spec_raText.f k a b) (mkB (Lib.decDigits a.toNat ++ 43 :: Lib.decDigits b.toNat)) := by
  obtain ⟨ha, hb⟩ := good_parts h
  have s1 := num_size a.toNat (by omega)
  have s2 := num_size b.toNat (by omega)
  have e43 : (⟨#[43]⟩ : ByteArray).size = 1 := rfl
  have hj : (mkB (Lib.decDigits a.toNat) ++ (⟨#[43]⟩ : ByteArray)) ++ mkB (Lib.decDigits b.toNat) = mkB (Lib.decDigits a.toNat ++ 43 :: Lib.decDigits b.toNat) := by
    apply ba_ext
    simp [mkB]
  unfold spec_raText.f
  refine Ev.bind (num_ev a (by omega) (by omega)) ?_
  simp only [if_pos (show (mkB (Lib.decDigits a.toNat)).size + 1 ≤ 9223372036854775807 by rw [mkB_size]; omega)]
  refine Ev.bind (num_ev b (by omega) (by omega)) ?_
  simp only [if_pos (show (mkB (Lib.decDigits a.toNat) ++ (⟨#[43]⟩ : ByteArray)).size + (mkB (Lib.decDigits b.toNat)).size ≤ 9223372036854775807 by rw [ByteArray.size_append, mkB_size, mkB_size, e43]; omega), hj]
  exact Ev.now _
theorem spec_ev (l : List UInt8) (hl : l.length ≤ 1048576) : Ev (fun k => spec_ParseRace.f k (mkB l)) (resP l) := by
  have hsplit := split_ev (mkB l) (by rw [mkB_size]; exact hl) 43
  rw [mkB_data] at hsplit
  have e43 : ((43 : UInt8).toNat : Int) = 43 := rfl
  rw [e43] at hsplit
  have bad : okP l = false → ∀ x : Bool, x = true → ∀ L, Ev (fun k => (spec_raParse.j0 k (mkB l) L x).bind fun bt133 => (if bt133.2.2 = true then (some (bt133.1, bt133.2.1, true)) else (some (0, 0, false)))) (resP l) := by
    rintro hb x rfl L
    unfold resP
    rw [hb]
    refine Ev.bind (a := (0, 0, false)) (ev_some fun k => by simp [spec_raParse.j0]) ?_
    exact Ev.now _
  have flat : ∀ (x : Bool), Ev (fun k => (spec_raParse.j0 k (mkB l) ((spl 43 [] l).map mkB) x).bind fun bt133 => (if bt133.2.2 = true then (some (bt133.1, bt133.2.1, true)) else (some (0, 0, false)))) (resP l) →
      x = (if ((mkB l).size : Int) > 4 then true else ((((spl 43 [] l).map mkB).length : Int) != 2)) → Ev (fun k => spec_ParseRace.f k (mkB l)) (resP l) := by
    intro x hx he
    have h2 : Ev (fun k => (spec_l1Split.f k (mkB l) 43).bind fun t122 => (if ((mkB l).size : Int) > 4 then (spec_raParse.j0 k (mkB l) t122 true) else (spec_raParse.j0 k (mkB l) t122 ((t122.length : Int) != 2))).bind fun bt133 => (if bt133.2.2 = true then (some (bt133.1, bt133.2.1, true)) else (some (0, 0, false)))) (resP l) := by
      refine Ev.bind hsplit ?_
      by_cases c : ((mkB l).size : Int) > 4
      · simp only [if_pos c] at he ⊢
        subst he; exact hx
      · simp only [if_neg c] at he ⊢
        subst he; exact hx
    have : (fun k => spec_ParseRace.f k (mkB l)) = fun k => (spec_l1Split.f k (mkB l) 43).bind fun t122 => (if ((mkB l).size : Int) > 4 then (spec_raParse.j0 k (mkB l) t122 true) else (spec_raParse.j0 k (mkB l) t122 ((t122.length : Int) != 2))).bind fun bt133 => (if bt133.2.2 = true then (some (bt133.1, bt133.2.1, true)) else (some (0, 0, false))) := by
      funext k
      unfold spec_ParseRace.f spec_raParse.f
      rw [Option.bind_assoc]
    rw [this]
    exact h2
  -- what okP says
  have okfacts : okP l = true → l.length ≤ 4 ∧ spl 43 [] l = [(cutL 43 l).1, (cutL 43 l).2.1] ∧ l = Lib.decDigits (canon (cutL 43 l).1).toNat ++ 43 :: Lib.decDigits (canon (cutL 43 l).2.1).toNat := by
    intro h
    unfold okP at h
    rw [Bool.and_eq_true] at h
    obtain ⟨ha, hb⟩ := good_parts h.2
    obtain ⟨d1, _⟩ := dec_of_canon (l := (cutL 43 l).1) (by omega)
    obtain ⟨d2, _⟩ := dec_of_canon (l := (cutL 43 l).2.1) (by omega)
    have hj := cut_join 43 l h.1
    have hl1 := num_size (canon (cutL 43 l).1).toNat (by omega)
    have hl2 : (Lib.decDigits (canon (cutL 43 l).2.1).toNat).length = 1 := by rw [Lib.decDigits_one (by omega)]; rfl
    have hlen := congrArg List.length hj
    simp only [List.length_append, List.length_cons] at hlen
    have e1 := congrArg List.length d1
    have e2 := congrArg List.length d2
    refine ⟨by omega, ?_, ?_⟩
    · have hn : (43 : UInt8) ∉ (cutL 43 l).2.1 := fun q => by
        have := canon_sign (b := 43) (by decide) q
        omega
      rw [spl_cut, if_pos h.1, List.nil_append, spl_cut, cut_not_mem hn]
      simp
    · rw [← d1, ← d2]; exact hj
  by_cases c4 : ((mkB l).size : Int) > 4
  · refine flat true (bad ?_ true rfl _) (by rw [if_pos c4])
    cases q : okP l with
    | false => rfl
    | true => have := (okfacts q).1; rw [mkB_size] at c4; omega
  · by_cases c2 : (((spl 43 [] l).map mkB).length : Int) = 2
    · refine flat false ?_ (by rw [if_neg c4, c2]; rfl)
      -- two words
      have hok : (cutL 43 l).2.2 = true := by
        cases q : (cutL 43 l).2.2 with
        | true => rfl
        | false => rw [spl_cut, q] at c2; simp at c2
      have hr : (cutL 43 (cutL 43 l).2.1).2.2 = false := by
        cases q : (cutL 43 (cutL 43 l).2.1).2.2 with
        | false => rfl
        | true =>
          rw [spl_cut, if_pos hok, spl_cut, if_pos q, spl_cut] at c2
          split at c2 <;> simp at c2 <;> omega
      have hsp : spl 43 [] l = [(cutL 43 l).1, (cutL 43 l).2.1] := by
        rw [spl_cut, if_pos hok, spl_cut, hr]; simp
      rw [hsp]
      simp only [List.map_cons, List.map_nil]
      have q0 : rdOf ByteArray.empty [mkB (cutL 43 l).1, mkB (cutL 43 l).2.1] 0 = mkB (cutL 43 l).1 := rfl
      have q1 : rdOf ByteArray.empty [mkB (cutL 43 l).1, mkB (cutL 43 l).2.1] 1 = mkB (cutL 43 l).2.1 := rfl
      obtain ⟨z1, z2⟩ := cut_sizes 43 l
      have e1 := read_ev (mkB (cutL 43 l).1) (by rw [mkB_size]; omega)
      have e2 := read_ev (mkB (cutL 43 l).2.1) (by rw [mkB_size]; omega)
      rw [mkB_data] at e1 e2
      have inner : Ev (fun k => spec_raParse.j0 k (mkB l) [mkB (cutL 43 l).1, mkB (cutL 43 l).2.1] false) (canon (cutL 43 l).1, canon (cutL 43 l).2.1, okP l) := by
        refine Ev.step (f := fun k => (spec_l1Read.f k (mkB (cutL 43 l).1)).bind fun t126 => (spec_l1Read.f k (mkB (cutL 43 l).2.1)).bind fun t128 => ((spec_raGood.f t126 t128).bind fun t130 => (if t130 = true then ((spec_raText.f k t126 t128).bind fun t131 => (some (t126, t128, (t131.toList == (mkB l).toList)))) else (some (t126, t128, false))))) (fun k => ?_) ?_
        · simp only [spec_raParse.j0, q0, q1]
          simp
        · refine Ev.bind e1 ?_
          refine Ev.bind e2 ?_
          simp only [raGood_eq, Option.bind_some]
          unfold okP
          rw [hok, Bool.true_and]
          cases hg : goodR (canon (cutL 43 l).1) (canon (cutL 43 l).2.1) with
          | false => simp only [Bool.false_eq_true, if_false]; exact Ev.now _
          | true =>
            simp only [if_true]
            refine Ev.bind (text_ev _ _ hg) ?_
            have := (okfacts (by unfold okP; rw [hok, hg]; rfl)).2.2
            rw [← this]
            simp only [beq_self_eq_true]
            exact Ev.now _
      refine Ev.bind inner ?_
      unfold resP
      cases okP l <;> exact Ev.now _
    · refine flat true (bad ?_ true rfl _) (by rw [if_neg c4]; simpa using c2)
      cases q : okP l with
      | false => rfl
      | true =>
        have := (okfacts q).2.1
        rw [this] at c2
        simp at c2

theorem FnExactParseRace : ∀ (a0 : ByteArray), a0.size ≤ 140737488351232 → ∃ k, laws_FnExactParseRace.f k a0 = some true := by
  intro s hs
  refine Ev.rounds ?_
  unfold laws_FnExactParseRace.f
  by_cases c : (s.size : Int) > 1048576
  · simp only [if_pos c]
    exact Ev.now _
  · simp only [if_neg c]
    have hl : s.data.toList.length ≤ 1048576 := by rw [size_list]; omega
    rw [← mkB_of s]
    refine Ev.bind (spec_ev s.data.toList hl) ?_
    refine Ev.bind (impl_ev s.data.toList hl) ?_
    unfold laws_eqRace.f
    simp
    exact Ev.now _

end Go.Proofs.YtahejnleejiobaaDoor.Pure
