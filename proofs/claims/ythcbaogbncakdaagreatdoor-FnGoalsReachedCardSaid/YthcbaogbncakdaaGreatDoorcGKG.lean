/- The draws of laws.FnGoalsReached end, and what they give is small. Condition: bytes. -/
import Derived.Test.YthcbaogbncakdaaGreatDoorcGKF
import Derived.Test.YthcbaogbncakdaaGreatDoorcGCur
import Derived.Laws.Bits64b
namespace Go.Proofs.YthcbaogbncakdaaGreatDoor.Pure
open Go.RowKit Go.Proofs.YthcbaogbncakdaaGreatDoor.QFnGoalsReached Go.Proofs.YthcbaogbncakdaaGreatDoorW.PrintWords Go.Proofs.YthcbaogbncakdaaGreatDoorW.PrintLast Go.Proofs.YthcbaogbncakdaaGreatDoorW.PrintMore
set_option linter.unusedVariables false
set_option linter.unusedSimpArgs false
set_option linter.unusedSectionVars false
def Bytes (l : List Int) : Prop := (∀ x ∈ l, 0 ≤ x ∧ x ≤ 255) ∧ l.length ≤ 1048576
theorem rd_mem (l : List Int) (i : Int) (h0 : 0 ≤ i) (h1 : i < (l.length : Int)) : rd l i ∈ l := by
  unfold rd
  have h : i.toNat < l.length := by omega
  rw [List.getD_eq_getElem?_getD, List.getElem?_eq_getElem h, Option.getD_some]
  exact List.getElem_mem h
theorem and255 (x : Int) (h0 : 0 ≤ x) (h1 : x < 18446744073709551616) : 0 ≤ wrap64 (Go.bits .and .u64 (x / 1099511627776) 255) ∧ wrap64 (Go.bits .and .u64 (x / 1099511627776) 255) ≤ 255 := by
  obtain ⟨n, rfl⟩ := Int.eq_ofNat_of_zero_le h0
  have e : ((n : Int) / 1099511627776) = ((n / 1099511627776 : Nat) : Int) := by omega
  have h := bits_and_u64_nat (n / 1099511627776) 255 (by omega) (by omega)
  have h2 : (n / 1099511627776) &&& 255 ≤ 255 := Nat.and_le_right
  rw [e, show (255 : Int) = ((255 : Nat) : Int) from rfl, h, wrap_id (by omega) (by omega)]
  omega
theorem u64_rng (x : Int) : 0 ≤ IntKind.u64.wrap x ∧ IntKind.u64.wrap x < 18446744073709551616 := by
  unfold IntKind.wrap
  simp [IntKind.bits, IntKind.signed]
  omega
theorem next_ok {l : List Int} (hl : Bytes l) {at_ sd : Int} (h0 : 0 ≤ at_) (h1 : at_ ≤ 1000000000) : ∃ v sd', spec_l1Cur_next.f l at_ sd = some (v, at_ + 1, sd') ∧ 0 ≤ v ∧ v ≤ 255 := by
  have hw : wrap64 (at_ + 1) = at_ + 1 := wrap_id (by omega) (by omega)
  have hn := hl.2
  unfold spec_l1Cur_next.f
  rw [hw]
  by_cases h : at_ < (l.length : Int)
  · rw [if_pos h, if_pos h0, if_pos (by omega)]
    have := hl.1 _ (rd_mem l at_ h0 h)
    rw [wrap_id (i := rd l at_) (by omega) (by omega)]
    exact ⟨_, _, rfl, this⟩
  · rw [if_neg h, if_neg (by omega)]
    exact ⟨_, _, rfl, and255 _ (u64_rng _).1 (u64_rng _).2⟩
theorem pick_ok {l : List Int} (hl : Bytes l) {at_ sd : Int} (h0 : 0 ≤ at_) (h1 : at_ ≤ 999999998) (n : Int) (hn : 1 ≤ n) : ∃ v at' sd', spec_l1Cur_pick.f l at_ sd n = some (v, at', sd') ∧ 0 ≤ v ∧ v < n ∧ at_ ≤ at' ∧ at' ≤ at_ + 2 := by
  unfold spec_l1Cur_pick.f
  by_cases h : n ≤ 1
  · rw [if_pos h]
    exact ⟨_, _, _, rfl, by omega, by omega, by omega, by omega⟩
  · rw [if_neg h]
    obtain ⟨v, sd', e, v0, v1⟩ := next_ok hl (sd := sd) h0 (by omega)
    rw [e, Option.bind_some]
    by_cases h2 : n > 200
    · rw [if_pos h2]
      obtain ⟨v', sd2, e2, w0, w1⟩ := next_ok hl (at_ := at_ + 1) (sd := sd') (by omega) (by omega)
      simp only
      rw [e2, Option.bind_some, if_neg (by omega)]
      simp only
      rw [wrap_id (i := v * 256) (by omega) (by omega), wrap_id (by omega) (by omega)]
      exact ⟨_, _, _, rfl, Int.tmod_nonneg _ (by omega), Int.tmod_lt_of_pos _ (by omega), by omega, by omega⟩
    · rw [if_neg h2, if_neg (by omega)]
      simp only
      exact ⟨_, _, _, rfl, Int.tmod_nonneg _ (by omega), Int.tmod_lt_of_pos _ (by omega), by omega, by omega⟩
theorem among_ok {l : List Int} (hl : Bytes l) {at_ sd : Int} (h0 : 0 ≤ at_) (h1 : at_ ≤ 999999998) (m : List Int) (hm : 1 ≤ (m.length : Int)) : ∃ v at' sd', spec_l1Cur_among.f l at_ sd m = some (v, at', sd') ∧ v ∈ m ∧ at_ ≤ at' ∧ at' ≤ at_ + 2 := by
  obtain ⟨v, at', sd', e, a, b, c, d⟩ := pick_ok hl (sd := sd) h0 h1 m.length hm
  unfold spec_l1Cur_among.f
  rw [e, Option.bind_some]
  simp only
  rw [if_pos a, if_pos b]
  exact ⟨_, _, _, rfl, rd_mem m v a b, c, d⟩
theorem one_ok {l : List Int} (hl : Bytes l) {at_ sd : Int} (h0 : 0 ≤ at_) (h1 : at_ ≤ 999999998) (n : Int) (hn : 1 ≤ n) : ∃ v at' sd', spec_l1Cur_one.f l at_ sd n = some (v, at', sd') ∧ at_ ≤ at' ∧ at' ≤ at_ + 2 := by
  obtain ⟨v, at', sd', e, a, b, c, d⟩ := pick_ok hl (sd := sd) h0 h1 n hn
  unfold spec_l1Cur_one.f
  rw [e, Option.bind_some]
  exact ⟨_, _, _, rfl, c, d⟩
theorem one_size (b : Int) : (strOfNums [b]).size = 1 := rfl
theorem cut_a (t : ByteArray) (i : Nat) (h : i ≤ t.size) : (t.extract 0 i).size = i := by
  rw [ByteArray.size_extract]
  omega
theorem cut_b (t : ByteArray) (i : Nat) (h : i ≤ t.size) : (t.extract i t.size).size = t.size - i := by
  rw [ByteArray.size_extract, Nat.min_self]
theorem sp_a (t : ByteArray) (i : Nat) (b : Int) (h : i ≤ t.size) (hz : t.size ≤ 2000) : (t.extract 0 i).size + (strOfNums [b]).size ≤ 9223372036854775807 := by
  rw [cut_a t i h, one_size]
  omega
theorem sp_b (t : ByteArray) (i j : Nat) (b : Int) (h : i ≤ t.size) (hj : j ≤ t.size) (hz : t.size ≤ 2000) : (t.extract 0 i ++ strOfNums [b]).size + (t.extract j t.size).size ≤ 9223372036854775807 := by
  rw [ByteArray.size_append, cut_a t i h, one_size, cut_b t j hj]
  omega
theorem sp_c (t : ByteArray) (i j : Nat) (h : i ≤ t.size) (hj : j ≤ t.size) (hz : t.size ≤ 2000) : (t.extract 0 i).size + (t.extract j t.size).size ≤ 9223372036854775807 := by
  rw [cut_a t i h, cut_b t j hj]
  omega
theorem sp_1 (t : ByteArray) (i : Nat) (b : Int) (h : i ≤ t.size) : (t.extract 0 i ++ strOfNums [b] ++ t.extract i t.size).size ≤ t.size + 1 := by
  rw [ByteArray.size_append, ByteArray.size_append, cut_a t i h, one_size, cut_b t i h]
  omega
theorem sp_2 (t : ByteArray) (i : Nat) (b : Int) (h : i < t.size) : (t.extract 0 i ++ strOfNums [b] ++ t.extract (i + 1) t.size).size ≤ t.size + 1 := by
  rw [ByteArray.size_append, ByteArray.size_append, cut_a t i (by omega), one_size, cut_b t (i + 1) h]
  omega
theorem sp_3 (t : ByteArray) (i : Nat) (h : i < t.size) : (t.extract 0 i ++ t.extract (i + 1) t.size).size ≤ t.size + 1 := by
  rw [ByteArray.size_append, cut_a t i (by omega), cut_b t (i + 1) h]
  omega
theorem spoilt_l0 {l : List Int} (hl : Bytes l) (w : ByteArray) (hw : 1 ≤ w.size) (hw2 : w.size ≤ 1000) (d : Nat) : ∀ (n : Int) (t : ByteArray) (at_ sd : Int), n ≤ d → -1 ≤ n → t.size + d ≤ 2000 → 0 ≤ at_ → at_ + 6 * d ≤ 999999900 →
    ∃ v : ByteArray × Int × Int, Ev (fun k => spec_l1Cur_spoilt.l0 k t w n l at_ sd) v ∧ v.1.size ≤ t.size + d ∧ at_ ≤ v.2.1 ∧ v.2.1 ≤ at_ + 6 * d := by
  induction d with
  | zero =>
    intro n t at_ sd h1 h2 h3 h4 h5
    refine ⟨(t, at_, sd), ?_, by simp, Int.le_refl _, by simp⟩
    refine Ev.step (f := fun k => spec_l1Cur_spoilt.j1 k t w n false l at_ sd) (fun k => ?_) (ev_some fun k => by simp [spec_l1Cur_spoilt.j1])
    simp only [spec_l1Cur_spoilt.l0]
    rw [if_neg (by omega)]
  | succ d ih =>
    intro n t at_ sd h1 h2 h3 h4 h5
    by_cases hn : n > 0 ∧ (t.size : Int) > 0
    · obtain ⟨hn, ht⟩ := hn
      obtain ⟨v1, t1, s1, e1, a1, b1, c1, d1⟩ := pick_ok hl (at_ := at_) (sd := sd) h4 (by omega) t.size (by omega)
      obtain ⟨v2, t2, s2, e2, a2, b2, c2, d2⟩ := pick_ok hl (at_ := t1) (sd := s1) (by omega) (by omega) w.size (by omega)
      obtain ⟨v3, t3, s3, e3, a3, b3, c3, d3⟩ := pick_ok hl (at_ := t2) (sd := s2) (by omega) (by omega) 3 (by omega)
      have hw1 : ∀ _ : Unit, wrap64 (n - 1) = n - 1 := fun _ => wrap_id (by omega) (by omega)
      have hw3 : ∀ _ : Unit, wrap64 (v1 + 1) = v1 + 1 := fun _ => wrap_id (by omega) (by omega)
      obtain ⟨i, rfl⟩ := Int.eq_ofNat_of_zero_le a1
      have hi1 : ((i : Int) + 1).toNat = i + 1 := by omega
      have hi : i < t.size := by omega
      have hz : t.size ≤ 2000 := by omega
      have hi2 : (0 : Int) ≤ (i : Int) := by omega
      have hi3 : (i : Int) ≤ (t.size : Int) := by omega
      have hi4 : (0 : Int) ≤ (i : Int) + 1 := by omega
      have hi5 : (i : Int) + 1 ≤ (t.size : Int) := by omega
      have go : ∀ (t' : ByteArray), t'.size ≤ t.size + 1 → (∀ k, spec_l1Cur_spoilt.j1 (k + 1) t w n true l at_ sd = spec_l1Cur_spoilt.l0 k t' w (n - 1) l t3 s3) → ∃ v : ByteArray × Int × Int, Ev (fun k => spec_l1Cur_spoilt.l0 k t w n l at_ sd) v ∧ v.1.size ≤ t.size + (d + 1 : Nat) ∧ at_ ≤ v.2.1 ∧ v.2.1 ≤ at_ + 6 * ((d + 1 : Nat) : Int) := by
        intro t' ht' hk
        obtain ⟨r, r1, r2, r3, r4⟩ := ih (n - 1) t' t3 s3 (by omega) (by omega) (by omega) (by omega) (by omega)
        refine ⟨r, ?_, by omega, by omega, by omega⟩
        refine Ev.step (f := fun k => spec_l1Cur_spoilt.j1 k t w n true l at_ sd) (fun k => ?_) (Ev.step hk r1)
        simp only [spec_l1Cur_spoilt.l0]
        rw [if_pos hn, decide_eq_true ht]
      by_cases q0 : v3 = 0
      · refine go _ (sp_1 t i (bt w v2) (Nat.le_of_lt hi)) (fun k => ?_)
        simp only [spec_l1Cur_spoilt.j1, if_true, e1, e2, e3, Option.bind_some, q0, hw1 ()]
        rw [if_pos a2, if_pos b2, if_pos hi2, if_pos hi3, Int.toNat_natCast, if_pos (sp_a t i _ (Nat.le_of_lt hi) hz), if_pos (sp_b t i i _ (Nat.le_of_lt hi) (Nat.le_of_lt hi) hz)]
      · by_cases q1 : v3 = 1
        · refine go _ (sp_2 t i (bt w v2) hi) (fun k => ?_)
          simp only [spec_l1Cur_spoilt.j1, if_true, e1, e2, e3, Option.bind_some, q1, hw1 (), hw3 (), hi1]
          rw [if_pos a2, if_pos b2, if_neg (by decide), if_pos hi2, if_pos hi3, Int.toNat_natCast, if_pos (sp_a t i _ (Nat.le_of_lt hi) hz), if_pos hi4, if_pos hi5, if_pos (sp_b t i (i + 1) _ (Nat.le_of_lt hi) hi hz)]
        · refine go _ (sp_3 t i hi) (fun k => ?_)
          simp only [spec_l1Cur_spoilt.j1, if_true, e1, e2, e3, Option.bind_some, hw1 (), hw3 (), hi1]
          rw [if_pos a2, if_pos b2, if_neg q0, if_neg q1, if_pos hi2, if_pos hi3, if_pos hi4, if_pos hi5, Int.toNat_natCast, if_pos (sp_c t i (i + 1) (Nat.le_of_lt hi) hi hz)]
    · refine ⟨(t, at_, sd), ?_, by simp only; omega, Int.le_refl _, by simp only; omega⟩
      refine Ev.step (f := fun k => spec_l1Cur_spoilt.j1 k t w n false l at_ sd) (fun k => ?_) (ev_some fun k => by simp [spec_l1Cur_spoilt.j1])
      simp only [spec_l1Cur_spoilt.l0]
      by_cases h : n > 0
      · rw [if_pos h, decide_eq_false (fun h' => hn ⟨h, h'⟩)]
      · rw [if_neg h]
theorem spoilt_ok {l : List Int} (hl : Bytes l) (t w : ByteArray) (ht : t.size ≤ 1900) (hw : 1 ≤ w.size) (hw2 : w.size ≤ 1000) {at_ sd : Int} (h0 : 0 ≤ at_) (h1 : at_ ≤ 999990000) :
    ∃ v : ByteArray × Int × Int, Ev (fun k => spec_l1Cur_spoilt.f k l at_ sd t w) v ∧ v.1.size ≤ t.size + 2 ∧ at_ ≤ v.2.1 ∧ v.2.1 ≤ at_ + 20 := by
  obtain ⟨p, at', sd', e, a, b, c, d⟩ := pick_ok hl (sd := sd) h0 (by omega) 2 (by omega)
  obtain ⟨r, r1, r2, r3, r4⟩ := spoilt_l0 hl w hw hw2 2 (wrap64 (1 + p)) t at' sd' (by rw [wrap_id (by omega) (by omega)]; omega) (by rw [wrap_id (by omega) (by omega)]; omega) (by omega) (by omega) (by omega)
  refine ⟨r, ?_, r2, by omega, by omega⟩
  unfold spec_l1Cur_spoilt.f
  rw [e]
  exact r1
theorem sure_l0 {l : List Int} (hl : Bytes l) (d : Nat) : ∀ (out : List Int) (a at_ sd : Int), out.length + d ≤ 10 → 0 ≤ a → a + 4 * d ≤ 20 → (∀ x ∈ out, 1 ≤ x ∧ x ≤ a) → 0 ≤ at_ → at_ + 2 * d ≤ 999999998 →
    ∃ v : List Int × Int × Int, Ev (fun k => spec_l1Cur_sureKinds.l0 k out a (d : Int) l at_ sd) v ∧ v.1.length = out.length + d ∧ (∀ x ∈ v.1, 1 ≤ x ∧ x ≤ a + 4 * d) ∧ at_ ≤ v.2.1 ∧ v.2.1 ≤ at_ + 2 * d := by
  induction d with
  | zero =>
    intro out a at_ sd h1 h2 h3 h4 h5 h6
    refine ⟨(out, at_, sd), ev_some fun k => ?_, by simp, fun x hx => by have := h4 x hx; omega, Int.le_refl _, by simp⟩
    simp only [spec_l1Cur_sureKinds.l0]
    rw [if_neg (by omega)]
  | succ d ih =>
    intro out a at_ sd h1 h2 h3 h4 h5 h6
    obtain ⟨p, t1, s1, e1, a1, b1, c1, d1⟩ := pick_ok hl (at_ := at_) (sd := sd) h5 (by omega) 4 (by omega)
    have hw1 : wrap64 (1 + p) = 1 + p := wrap_id (by omega) (by omega)
    have hw2 : wrap64 (a + (1 + p)) = a + (1 + p) := wrap_id (by omega) (by omega)
    have hw3 : wrap64 (((d + 1 : Nat) : Int) - 1) = (d : Int) := by rw [wrap_id (by omega) (by omega)]; omega
    obtain ⟨v, v1, v2, v3, v4, v5⟩ := ih (out ++ [a + (1 + p)]) (a + (1 + p)) t1 s1 (by simp; omega) (by omega) (by omega) (fun x hx => by
      rcases List.mem_append.1 hx with hx | hx
      · have := h4 x hx; omega
      · obtain rfl := List.mem_singleton.1 hx
        omega) (by omega) (by omega)
    refine ⟨v, ?_, by rw [v2]; simp; omega, fun x hx => by have := v3 x hx; omega, by omega, by omega⟩
    refine Ev.step (fun k => ?_) v1
    simp only [spec_l1Cur_sureKinds.l0]
    rw [if_pos (by omega), e1, Option.bind_some]
    simp only [hw1, hw2, hw3]
    rw [if_pos (by omega)]
theorem sure_ok {l : List Int} (hl : Bytes l) {at_ sd : Int} (h0 : 0 ≤ at_) (h1 : at_ ≤ 999990000) : ∃ v : List Int × Int × Int, Ev (fun k => spec_l1Cur_sureKinds.f k l at_ sd) v ∧ (1 ≤ v.1.length ∧ v.1.length ≤ 4) ∧ (∀ x ∈ v.1, 1 ≤ x ∧ x ≤ 20) ∧ at_ ≤ v.2.1 ∧ v.2.1 ≤ at_ + 20 := by
  obtain ⟨p, t1, s1, e1, a1, b1, c1, d1⟩ := pick_ok hl (at_ := at_) (sd := sd) h0 (by omega) 4 (by omega)
  have hw1 : wrap64 (1 + p) = (((1 + p).toNat : Nat) : Int) := by rw [wrap_id (by omega) (by omega)]; omega
  obtain ⟨v, v1, v2, v3, v4, v5⟩ := sure_l0 hl (1 + p).toNat [] 0 t1 s1 (by simp; omega) (by omega) (by omega) (fun x hx => by cases hx) (by omega) (by omega)
  simp only [List.length_nil] at v2
  refine ⟨v, ?_, by omega, fun x hx => by have := v3 x hx; omega, by omega, by omega⟩
  unfold spec_l1Cur_sureKinds.f
  simp only [e1, Option.bind_some, hw1]
  exact v1
theorem kinds_ok {l : List Int} (hl : Bytes l) {at_ sd : Int} (h0 : 0 ≤ at_) (h1 : at_ ≤ 999980000) : ∃ v : List Int × Int × Int, Ev (fun k => spec_l1Cur_kinds.f k l at_ sd) v ∧ v.1.length ≤ 6 ∧ at_ ≤ v.2.1 ∧ v.2.1 ≤ at_ + 40 := by
  obtain ⟨v, v1, ⟨v2, v3⟩, _, v4, v5⟩ := sure_ok hl (at_ := at_) (sd := sd) h0 (by omega)
  obtain ⟨p, t1, s1, e1, a1, b1, c1, d1⟩ := pick_ok hl (at_ := v.2.1) (sd := v.2.2) (by omega) (by omega) 16 (by omega)
  obtain ⟨q, t2, s2, e2, m2, c2, d2⟩ := among_ok hl (at_ := t1) (sd := s1) (by omega) (by omega) [(-1), 0, 5, 20, 21, 4611686018427387904] (by decide)
  have key : ∀ r : List Int × Int × Int, (if p = 0 then some (([] : List Int), t1, s1) else (if p = 1 then some (v.1 ++ [q], t2, s2) else (if p = 2 then some ([1, 2, 3, 4, 5], t1, s1) else some (v.1, t1, s1)))) = some r → Ev (fun k => spec_l1Cur_kinds.f k l at_ sd) r := fun r hr => by
    unfold spec_l1Cur_kinds.f
    refine Ev.bind v1 ?_
    simp only [e1, e2, Option.bind_some]
    have hq : v.1.length < 17592186044416 := by omega
    simp only [if_pos hq]
    exact ev_const fun _ => hr
  by_cases q0 : p = 0
  · exact ⟨([], t1, s1), key _ (if_pos q0), by simp, by simp only; omega, by simp only; omega⟩
  · by_cases q1 : p = 1
    · exact ⟨(v.1 ++ [q], t2, s2), key _ (by rw [if_neg q0, if_pos q1]), by simp; omega, by simp only; omega, by simp only; omega⟩
    · by_cases q2 : p = 2
      · exact ⟨([1, 2, 3, 4, 5], t1, s1), key _ (by rw [if_neg q0, if_neg q1, if_pos q2]), by simp, by simp only; omega, by simp only; omega⟩
      · exact ⟨(v.1, t1, s1), key _ (by rw [if_neg q0, if_neg q1, if_neg q2]), by simp only; omega, by simp only; omega, by simp only; omega⟩
theorem score_ok {l : List Int} (hl : Bytes l) {at_ sd : Int} (h0 : 0 ≤ at_) (h1 : at_ ≤ 999980000) : ∃ v : Int × Int × Int, spec_l1Cur_score.f l at_ sd = some v := by
  obtain ⟨b, t1, s1, e1, c1, d1⟩ := one_ok hl (at_ := at_) (sd := sd) h0 (by omega) 9 (by omega)
  obtain ⟨q, t2, s2, e2, m2, c2, d2⟩ := among_ok hl (at_ := t1) (sd := s1) (by omega) (by omega) [(-1), 0, 1, 200, 201, 4611686018427387904] (by decide)
  obtain ⟨p, t3, s3, e3, a3, b3, c3, d3⟩ := pick_ok hl (at_ := t1) (sd := s1) (by omega) (by omega) 40 (by omega)
  unfold spec_l1Cur_score.f
  simp only [e1, e2, e3, Option.bind_some]
  split
  · exact ⟨_, rfl⟩
  · exact ⟨_, rfl⟩
theorem draw_first {l : List Int} (hl : Bytes l) : ∃ ks s, (∃ k, spec_DrawFirstGoals.f k l = some (ks, s)) ∧ ks.length ≤ 6 := by
  obtain ⟨v, v1, v2, v3, v4⟩ := kinds_ok hl (at_ := 0) (sd := 0) (by omega) (by omega)
  obtain ⟨w, hw⟩ := score_ok hl (at_ := v.2.1) (sd := v.2.2) (by omega) (by omega)
  refine ⟨v.1, w.1, Ev.rounds (g := fun k => spec_DrawFirstGoals.f k l) ?_, v2⟩
  unfold spec_DrawFirstGoals.f spec_DrawCanReach.f mkCur.f
  refine Ev.bind (a := (v.1, w.1)) ?_ (Ev.now _)
  simp only [Option.bind_some]
  refine Ev.bind v1 ?_
  simp only [hw, Option.bind_some]
  exact Ev.now _
theorem draw_great {l : List Int} (hl : Bytes l) : ∃ u, (∃ k, spec_DrawGreatestNotReached.f k l = some u) ∧ u.length ≤ 6 := by
  obtain ⟨v, v1, v2, v3, v4⟩ := kinds_ok hl (at_ := 0) (sd := 0) (by omega) (by omega)
  refine ⟨v.1, Ev.rounds (g := fun k => spec_DrawGreatestNotReached.f k l) ?_, v2⟩
  unfold spec_DrawGreatestNotReached.f spec_DrawAreKinds.f mkCur.f
  refine Ev.bind (a := v.1) ?_ (Ev.now _)
  simp only [Option.bind_some]
  exact Ev.bind v1 (Ev.now _)
theorem draw_parse {l : List Int} (hl : Bytes l) : ∃ s, (∃ k, spec_DrawParseKinds.f k l = some s) ∧ s.size ≤ 100 := by
  obtain ⟨v, v1, ⟨v2, v3⟩, v4, v5, v6⟩ := sure_ok hl (at_ := 0) (sd := 0) (by omega) (by omega)
  have hz := kTxt_size v.1 (by omega) v4 v.1.length (Nat.le_refl _)
  rw [List.take_length] at hz
  have hg := goText_ev v.1 v2 (by omega) v4
  obtain ⟨b, t1, s1, e1, c1, d1⟩ := one_ok hl (at_ := v.2.1) (sd := v.2.2) (by omega) (by omega) 3 (by omega)
  cases b with
  | false =>
    refine ⟨kTxt v.1, Ev.rounds (g := fun k => spec_DrawParseKinds.f k l) ?_, by omega⟩
    unfold spec_DrawParseKinds.f mkCur.f
    simp only [Option.bind_some]
    refine Ev.bind v1 (Ev.bind hg ?_)
    simp only [e1, Option.bind_some, Bool.false_eq_true, if_false]
    exact Ev.now _
  | true =>
    obtain ⟨r, r1, r2, r3, r4⟩ := spoilt_ok hl (kTxt v.1) (⟨#[48, 49, 50, 51, 45, 120]⟩ : ByteArray) (by omega) (by decide) (by decide) (at_ := t1) (sd := s1) (by omega) (by omega)
    refine ⟨r.1, Ev.rounds (g := fun k => spec_DrawParseKinds.f k l) ?_, by omega⟩
    unfold spec_DrawParseKinds.f mkCur.f
    simp only [Option.bind_some]
    refine Ev.bind v1 (Ev.bind hg ?_)
    simp only [e1, Option.bind_some, if_true]
    exact Ev.bind r1 (Ev.now _)
end Go.Proofs.YthcbaogbncakdaaGreatDoor.Pure
