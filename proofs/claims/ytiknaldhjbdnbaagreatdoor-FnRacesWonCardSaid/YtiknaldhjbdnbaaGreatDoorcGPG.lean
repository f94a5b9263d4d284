/- The draws of laws.FnRacesWon end, and what they give is small. Condition: bytes. -/
import Derived.Test.YtiknaldhjbdnbaaGreatDoorcGPB
import Derived.Laws.Bits64b
namespace Go.Proofs.YtiknaldhjbdnbaaGreatDoor.Pure
open Go.RowKit Go.Proofs.YtiknaldhjbdnbaaGreatDoor.QFnRacesWon Go.Proofs.YtiknaldhjbdnbaaGreatDoorW.PrintWords Go.Proofs.YtiknaldhjbdnbaaGreatDoorW.PrintLast Go.Proofs.YtiknaldhjbdnbaaGreatDoorW.PrintMore
set_option linter.unusedVariables false
set_option linter.unusedSimpArgs false
set_option linter.unusedSectionVars false
def Bytes (l : List Int) : Prop := (∀ x ∈ l, 0 ≤ x ∧ x ≤ 255) ∧ l.length ≤ 1048576
theorem rd_mem (l : List Int) (i : Int) (h0 : 0 ≤ i) (h1 : i < (l.length : Int)) : rd l i ∈ l := by
  unfold rd
  have h : i.toNat < l.length := by omega
  rw [List.getD_eq_getElem?_getD, List.getElem?_eq_getElem h, Option.getD_some]
  exact List.getElem_mem h
theorem rdOf_mem (l : List ByteArray) (i : Int) (h0 : 0 ≤ i) (h1 : i < (l.length : Int)) : rdOf ByteArray.empty l i ∈ l := by
  unfold rdOf
  have h : i.toNat < l.length := by omega
  rw [List.getD_eq_getElem?_getD, List.getElem?_eq_getElem h, Option.getD_some]
  exact List.getElem_mem h
theorem and255 (x : Int) (h0 : 0 ≤ x) (h1 : x < 18446744073709551616) : 0 ≤ wrap64 (Go.bits .and .u64 (x / 1099511627776) 255) ∧ wrap64 (Go.bits .and .u64 (x / 1099511627776) 255) ≤ 255 := by
  obtain ⟨n, rfl⟩ := Int.eq_ofNat_of_zero_le h0
  have e : ((n : Int) / 1099511627776) = ((n / 1099511627776 : Nat) : Int) := by omega
  have h := bits_and_u64_nat (n / 1099511627776) 255 (by omega) (by omega)
  have h2 : (n / 1099511627776) &&& 255 ≤ 255 := Nat.and_le_right
  rw [e, show (255 : Int) = ((255 : Nat) : Int) from rfl, h, wrap_id (by omega) (by omega)]
  omega
theorem u64_rng (x : Int) : 0 ≤ IntKind.u64.wrap x ∧ IntKind.u64.wrap x < 18446744073709551616 := by
  unfold IntKind.wrap
  simp [IntKind.bits, IntKind.signed]
  omega
theorem next_ok {l : List Int} (hl : Bytes l) {at_ sd : Int} (h0 : 0 ≤ at_) (h1 : at_ ≤ 1000000000) : ∃ v sd', spec_l1Cur_next.f l at_ sd = some (v, at_ + 1, sd') ∧ 0 ≤ v ∧ v ≤ 255 := by
  have hw : wrap64 (at_ + 1) = at_ + 1 := wrap_id (by omega) (by omega)
  have hn := hl.2
  unfold spec_l1Cur_next.f
  rw [hw]
  by_cases h : at_ < (l.length : Int)
  · rw [if_pos h, if_pos h0, if_pos (by omega)]
    have := hl.1 _ (rd_mem l at_ h0 h)
    rw [wrap_id (i := rd l at_) (by omega) (by omega)]
    exact ⟨_, _, rfl, this⟩
  · rw [if_neg h, if_neg (by omega)]
    exact ⟨_, _, rfl, and255 _ (u64_rng _).1 (u64_rng _).2⟩
theorem pick_ok {l : List Int} (hl : Bytes l) {at_ sd : Int} (h0 : 0 ≤ at_) (h1 : at_ ≤ 999999998) (n : Int) (hn : 1 ≤ n) : ∃ v at' sd', spec_l1Cur_pick.f l at_ sd n = some (v, at', sd') ∧ 0 ≤ v ∧ v < n ∧ at_ ≤ at' ∧ at' ≤ at_ + 2 := by
  unfold spec_l1Cur_pick.f
  by_cases h : n ≤ 1
  · rw [if_pos h]
    exact ⟨_, _, _, rfl, by omega, by omega, by omega, by omega⟩
  · rw [if_neg h]
    obtain ⟨v, sd', e, v0, v1⟩ := next_ok hl (sd := sd) h0 (by omega)
    rw [e, Option.bind_some]
    by_cases h2 : n > 200
    · rw [if_pos h2]
      obtain ⟨v', sd2, e2, w0, w1⟩ := next_ok hl (at_ := at_ + 1) (sd := sd') (by omega) (by omega)
      simp only
      rw [e2, Option.bind_some, if_neg (by omega)]
      simp only
      rw [wrap_id (i := v * 256) (by omega) (by omega), wrap_id (by omega) (by omega)]
      exact ⟨_, _, _, rfl, Int.tmod_nonneg _ (by omega), Int.tmod_lt_of_pos _ (by omega), by omega, by omega⟩
    · rw [if_neg h2, if_neg (by omega)]
      simp only
      exact ⟨_, _, _, rfl, Int.tmod_nonneg _ (by omega), Int.tmod_lt_of_pos _ (by omega), by omega, by omega⟩
theorem of_ok {l : List Int} (hl : Bytes l) {at_ sd : Int} (h0 : 0 ≤ at_) (h1 : at_ ≤ 999999998) (m : List ByteArray) (hm : 1 ≤ (m.length : Int)) : ∃ v at' sd', spec_l1Cur_of.f l at_ sd m = some (v, at', sd') ∧ v ∈ m ∧ at_ ≤ at' ∧ at' ≤ at_ + 2 := by
  obtain ⟨v, at', sd', e, a, b, c, d⟩ := pick_ok hl (sd := sd) h0 h1 m.length hm
  unfold spec_l1Cur_of.f
  rw [e, Option.bind_some]
  simp only
  rw [if_pos a, if_pos b]
  exact ⟨_, _, _, rfl, rdOf_mem m v a b, c, d⟩
theorem among_ok {l : List Int} (hl : Bytes l) {at_ sd : Int} (h0 : 0 ≤ at_) (h1 : at_ ≤ 999999998) (m : List Int) (hm : 1 ≤ (m.length : Int)) : ∃ v at' sd', spec_l1Cur_among.f l at_ sd m = some (v, at', sd') ∧ v ∈ m ∧ at_ ≤ at' ∧ at' ≤ at_ + 2 := by
  obtain ⟨v, at', sd', e, a, b, c, d⟩ := pick_ok hl (sd := sd) h0 h1 m.length hm
  unfold spec_l1Cur_among.f
  rw [e, Option.bind_some]
  simp only
  rw [if_pos a, if_pos b]
  exact ⟨_, _, _, rfl, rd_mem m v a b, c, d⟩
theorem one_ok {l : List Int} (hl : Bytes l) {at_ sd : Int} (h0 : 0 ≤ at_) (h1 : at_ ≤ 999999998) (n : Int) (hn : 1 ≤ n) : ∃ v at' sd', spec_l1Cur_one.f l at_ sd n = some (v, at', sd') ∧ at_ ≤ at' ∧ at' ≤ at_ + 2 := by
  obtain ⟨v, at', sd', e, a, b, c, d⟩ := pick_ok hl (sd := sd) h0 h1 n hn
  unfold spec_l1Cur_one.f
  rw [e, Option.bind_some]
  exact ⟨_, _, _, rfl, c, d⟩
theorem race_ok {l : List Int} (hl : Bytes l) {at_ sd : Int} (h0 : 0 ≤ at_) (h1 : at_ ≤ 999999900) : ∃ To Lead at' sd', spec_l1Cur_race.f l at_ sd = some (To, Lead, at', sd') ∧ at_ ≤ at' ∧ at' ≤ at_ + 8 := by
  obtain ⟨v1, t1, s1, e1, a1, b1, c1, d1⟩ := pick_ok hl (sd := sd) h0 (by omega) 6 (by omega)
  obtain ⟨v2, t2, s2, e2, m2, c2, d2⟩ := among_ok hl (at_ := t1) (sd := s1) (by omega) (by omega) [1, 2, 2, 2, 3] (by decide)
  obtain ⟨v3, t3, s3, e3, a3, b3, c3, d3⟩ := pick_ok hl (at_ := t2) (sd := s2) (by omega) (by omega) 20 (by omega)
  obtain ⟨v4, t4, s4, e4, m4, c4, d4⟩ := among_ok hl (at_ := t3) (sd := s3) (by omega) (by omega) [(-1), 0, 11, 25, 30, 31, 4611686018427387904] (by decide)
  obtain ⟨v5, t5, s5, e5, m5, c5, d5⟩ := among_ok hl (at_ := t3) (sd := s3) (by omega) (by omega) [(-1), 0, 1, 5, 6, 4611686018427387904] (by decide)
  unfold spec_l1Cur_race.f spec_l1Cur_sureRace.f
  simp only [e1, e2, e3, e4, e5, Option.bind_some]
  split
  · exact ⟨_, _, _, _, rfl, by omega, by omega⟩
  · split
    · exact ⟨_, _, _, _, rfl, by omega, by omega⟩
    · exact ⟨_, _, _, _, rfl, by omega, by omega⟩
theorem surePlay_l0 {l : List Int} (hl : Bytes l) (To Lead : Int) (d : Nat) : ∀ (n : Int) (out : ByteArray) (at_ sd : Int), n ≤ d → -1 ≤ n → d ≤ 1000 → out.size + d ≤ 2000 → 0 ≤ at_ → at_ + 2 * d ≤ 999999998 →
    ∃ v : ByteArray × Int × Int, Ev (fun k => spec_l1Cur_surePlay.l0 k out n l at_ sd To Lead) v ∧ v.1.size ≤ out.size + d ∧ at_ ≤ v.2.1 ∧ v.2.1 ≤ at_ + 2 * d := by
  induction d with
  | zero =>
    intro n out at_ sd h1 h2 h3 h4 h5 h6
    refine ⟨(out, at_, sd), ev_some fun k => ?_, by simp, Int.le_refl _, by simp⟩
    simp only [spec_l1Cur_surePlay.l0]
    rw [if_neg (by omega)]
  | succ d ih =>
    intro n out at_ sd h1 h2 h3 h4 h5 h6
    by_cases hn : n > 0
    · have hs := raSide_ev To Lead out (by omega)
      obtain ⟨v, at', sd', e, m, c, dd⟩ := of_ok hl (at_ := at_) (sd := sd) h5 (by omega) [(⟨#[97]⟩ : ByteArray), (⟨#[98]⟩ : ByteArray)] (by decide)
      have hv : v.size = 1 := by
        simp only [List.mem_cons, List.not_mem_nil, or_false] at m
        rcases m with rfl | rfl <;> rfl
      have hsz : (out ++ v).size = out.size + 1 := by rw [ByteArray.size_append, hv]
      by_cases ho : out.size + 1 + d ≤ 2000
      · obtain ⟨r, r1, r2, r3, r4⟩ := ih (wrap64 (n - 1)) (out ++ v) at' sd' (by rw [wrap_id (by omega) (by omega)]; omega) (by rw [wrap_id (by omega) (by omega)]; omega) (by omega) (by omega) (by omega) (by omega)
        by_cases hw : (wonText (code (Rw To Lead (cntS To Lead out).1 (cntS To Lead out).2.1))).toList = ([45] : List UInt8)
        · refine ⟨r, ?_, by omega, by omega, by omega⟩
          refine Ev.step (f := fun k => (spec_raSide.f k To Lead out).bind fun t166 => (if t166.toList = ([45] : List UInt8) then ((spec_l1Cur_of.f l at_ sd (([(⟨#[97]⟩ : ByteArray), (⟨#[98]⟩ : ByteArray)] : List ByteArray))).bind fun bt170 => (if out.size + bt170.1.size ≤ 9223372036854775807 then (spec_l1Cur_surePlay.l0 k (out ++ bt170.1) (wrap64 (n - 1)) l bt170.2.1 bt170.2.2 To Lead) else (none))) else (some (out, at_, sd)))) (fun k => by simp only [spec_l1Cur_surePlay.l0]; rw [if_pos hn]) ?_
          refine Ev.bind hs ?_
          simp only [hw, if_true, e, Option.bind_some]
          simp only [show out.size + v.size ≤ 9223372036854775807 by omega, if_true]
          exact r1
        · refine ⟨(out, at_, sd), ?_, by simp only; omega, Int.le_refl _, by simp only; omega⟩
          refine Ev.step (f := fun k => (spec_raSide.f k To Lead out).bind fun t166 => (if t166.toList = ([45] : List UInt8) then ((spec_l1Cur_of.f l at_ sd (([(⟨#[97]⟩ : ByteArray), (⟨#[98]⟩ : ByteArray)] : List ByteArray))).bind fun bt170 => (if out.size + bt170.1.size ≤ 9223372036854775807 then (spec_l1Cur_surePlay.l0 k (out ++ bt170.1) (wrap64 (n - 1)) l bt170.2.1 bt170.2.2 To Lead) else (none))) else (some (out, at_, sd)))) (fun k => by simp only [spec_l1Cur_surePlay.l0]; rw [if_pos hn]) ?_
          refine Ev.bind hs ?_
          simp only [hw, if_false]
          exact Ev.now _
      · exact absurd h4 (by omega)
    · refine ⟨(out, at_, sd), ev_some fun k => ?_, by simp only; omega, Int.le_refl _, by simp only; omega⟩
      simp only [spec_l1Cur_surePlay.l0]
      rw [if_neg hn]
theorem surePlay_ok {l : List Int} (hl : Bytes l) {at_ sd : Int} (h0 : 0 ≤ at_) (h1 : at_ ≤ 999990000) (To Lead n : Int) (hn0 : 0 ≤ n) (hn : n ≤ 100) : ∃ v : ByteArray × Int × Int, Ev (fun k => spec_l1Cur_surePlay.f k l at_ sd To Lead n) v ∧ v.1.size ≤ 101 ∧ at_ ≤ v.2.1 ∧ v.2.1 ≤ at_ + 300 := by
  obtain ⟨p, at', sd', e, a, b, c, d⟩ := pick_ok hl (sd := sd) h0 (by omega) (wrap64 (n + 1)) (by rw [wrap_id (by omega) (by omega)]; omega)
  rw [wrap_id (i := n + 1) (by omega) (by omega)] at b
  obtain ⟨r, r1, r2, r3, r4⟩ := surePlay_l0 hl To Lead 101 p (⟨#[]⟩ : ByteArray) at' sd' (by omega) (by omega) (by omega) (by decide) (by omega) (by omega)
  refine ⟨r, ?_, by have : (⟨#[]⟩ : ByteArray).size = 0 := rfl; omega, by omega, by omega⟩
  unfold spec_l1Cur_surePlay.f
  rw [e]
  exact r1
theorem one_size (b : Int) : (strOfNums [b]).size = 1 := rfl
theorem cut_a (t : ByteArray) (i : Nat) (h : i ≤ t.size) : (t.extract 0 i).size = i := by
  rw [ByteArray.size_extract]
  omega
theorem cut_b (t : ByteArray) (i : Nat) (h : i ≤ t.size) : (t.extract i t.size).size = t.size - i := by
  rw [ByteArray.size_extract, Nat.min_self]
theorem sp_a (t : ByteArray) (i : Nat) (b : Int) (h : i ≤ t.size) (hz : t.size ≤ 2000) : (t.extract 0 i).size + (strOfNums [b]).size ≤ 9223372036854775807 := by
  rw [cut_a t i h, one_size]
  omega
theorem sp_b (t : ByteArray) (i j : Nat) (b : Int) (h : i ≤ t.size) (hj : j ≤ t.size) (hz : t.size ≤ 2000) : (t.extract 0 i ++ strOfNums [b]).size + (t.extract j t.size).size ≤ 9223372036854775807 := by
  rw [ByteArray.size_append, cut_a t i h, one_size, cut_b t j hj]
  omega
theorem sp_c (t : ByteArray) (i j : Nat) (h : i ≤ t.size) (hj : j ≤ t.size) (hz : t.size ≤ 2000) : (t.extract 0 i).size + (t.extract j t.size).size ≤ 9223372036854775807 := by
  rw [cut_a t i h, cut_b t j hj]
  omega
theorem sp_1 (t : ByteArray) (i : Nat) (b : Int) (h : i ≤ t.size) : (t.extract 0 i ++ strOfNums [b] ++ t.extract i t.size).size ≤ t.size + 1 := by
  rw [ByteArray.size_append, ByteArray.size_append, cut_a t i h, one_size, cut_b t i h]
  omega
theorem sp_2 (t : ByteArray) (i : Nat) (b : Int) (h : i < t.size) : (t.extract 0 i ++ strOfNums [b] ++ t.extract (i + 1) t.size).size ≤ t.size + 1 := by
  rw [ByteArray.size_append, ByteArray.size_append, cut_a t i (by omega), one_size, cut_b t (i + 1) h]
  omega
theorem sp_3 (t : ByteArray) (i : Nat) (h : i < t.size) : (t.extract 0 i ++ t.extract (i + 1) t.size).size ≤ t.size + 1 := by
  rw [ByteArray.size_append, cut_a t i (by omega), cut_b t (i + 1) h]
  omega
theorem spoilt_l0 {l : List Int} (hl : Bytes l) (w : ByteArray) (hw : 1 ≤ w.size) (hw2 : w.size ≤ 1000) (d : Nat) : ∀ (n : Int) (t : ByteArray) (at_ sd : Int), n ≤ d → -1 ≤ n → t.size + d ≤ 2000 → 0 ≤ at_ → at_ + 6 * d ≤ 999999900 →
    ∃ v : ByteArray × Int × Int, Ev (fun k => spec_l1Cur_spoilt.l0 k t w n l at_ sd) v ∧ v.1.size ≤ t.size + d ∧ at_ ≤ v.2.1 ∧ v.2.1 ≤ at_ + 6 * d := by
  induction d with
  | zero =>
    intro n t at_ sd h1 h2 h3 h4 h5
    refine ⟨(t, at_, sd), ?_, by simp, Int.le_refl _, by simp⟩
    refine Ev.step (f := fun k => spec_l1Cur_spoilt.j1 k t w n false l at_ sd) (fun k => ?_) (ev_some fun k => by simp [spec_l1Cur_spoilt.j1])
    simp only [spec_l1Cur_spoilt.l0]
    rw [if_neg (by omega)]
  | succ d ih =>
    intro n t at_ sd h1 h2 h3 h4 h5
    by_cases hn : n > 0 ∧ (t.size : Int) > 0
    · obtain ⟨hn, ht⟩ := hn
      obtain ⟨v1, t1, s1, e1, a1, b1, c1, d1⟩ := pick_ok hl (at_ := at_) (sd := sd) h4 (by omega) t.size (by omega)
      obtain ⟨v2, t2, s2, e2, a2, b2, c2, d2⟩ := pick_ok hl (at_ := t1) (sd := s1) (by omega) (by omega) w.size (by omega)
      obtain ⟨v3, t3, s3, e3, a3, b3, c3, d3⟩ := pick_ok hl (at_ := t2) (sd := s2) (by omega) (by omega) 3 (by omega)
      have hw1 : ∀ _ : Unit, wrap64 (n - 1) = n - 1 := fun _ => wrap_id (by omega) (by omega)
      have hw3 : ∀ _ : Unit, wrap64 (v1 + 1) = v1 + 1 := fun _ => wrap_id (by omega) (by omega)
      obtain ⟨i, rfl⟩ := Int.eq_ofNat_of_zero_le a1
      have hi1 : ((i : Int) + 1).toNat = i + 1 := by omega
      have hi : i < t.size := by omega
      have hz : t.size ≤ 2000 := by omega
      have hi2 : (0 : Int) ≤ (i : Int) := by omega
      have hi3 : (i : Int) ≤ (t.size : Int) := by omega
      have hi4 : (0 : Int) ≤ (i : Int) + 1 := by omega
      have hi5 : (i : Int) + 1 ≤ (t.size : Int) := by omega
      have go : ∀ (t' : ByteArray), t'.size ≤ t.size + 1 → (∀ k, spec_l1Cur_spoilt.j1 (k + 1) t w n true l at_ sd = spec_l1Cur_spoilt.l0 k t' w (n - 1) l t3 s3) → ∃ v : ByteArray × Int × Int, Ev (fun k => spec_l1Cur_spoilt.l0 k t w n l at_ sd) v ∧ v.1.size ≤ t.size + (d + 1 : Nat) ∧ at_ ≤ v.2.1 ∧ v.2.1 ≤ at_ + 6 * ((d + 1 : Nat) : Int) := by
        intro t' ht' hk
        obtain ⟨r, r1, r2, r3, r4⟩ := ih (n - 1) t' t3 s3 (by omega) (by omega) (by omega) (by omega) (by omega)
        refine ⟨r, ?_, by omega, by omega, by omega⟩
        refine Ev.step (f := fun k => spec_l1Cur_spoilt.j1 k t w n true l at_ sd) (fun k => ?_) (Ev.step hk r1)
        simp only [spec_l1Cur_spoilt.l0]
        rw [if_pos hn, decide_eq_true ht]
      by_cases q0 : v3 = 0
      · refine go _ (sp_1 t i (bt w v2) (Nat.le_of_lt hi)) (fun k => ?_)
        simp only [spec_l1Cur_spoilt.j1, if_true, e1, e2, e3, Option.bind_some, q0, hw1 ()]
        rw [if_pos a2, if_pos b2, if_pos hi2, if_pos hi3, Int.toNat_natCast, if_pos (sp_a t i _ (Nat.le_of_lt hi) hz), if_pos (sp_b t i i _ (Nat.le_of_lt hi) (Nat.le_of_lt hi) hz)]
      · by_cases q1 : v3 = 1
        · refine go _ (sp_2 t i (bt w v2) hi) (fun k => ?_)
          simp only [spec_l1Cur_spoilt.j1, if_true, e1, e2, e3, Option.bind_some, q1, hw1 (), hw3 (), hi1]
          rw [if_pos a2, if_pos b2, if_neg (by decide), if_pos hi2, if_pos hi3, Int.toNat_natCast, if_pos (sp_a t i _ (Nat.le_of_lt hi) hz), if_pos hi4, if_pos hi5, if_pos (sp_b t i (i + 1) _ (Nat.le_of_lt hi) hi hz)]
        · refine go _ (sp_3 t i hi) (fun k => ?_)
          simp only [spec_l1Cur_spoilt.j1, if_true, e1, e2, e3, Option.bind_some, hw1 (), hw3 (), hi1]
          rw [if_pos a2, if_pos b2, if_neg q0, if_neg q1, if_pos hi2, if_pos hi3, if_pos hi4, if_pos hi5, Int.toNat_natCast, if_pos (sp_c t i (i + 1) (Nat.le_of_lt hi) hi hz)]
    · refine ⟨(t, at_, sd), ?_, by simp only; omega, Int.le_refl _, by simp only; omega⟩
      refine Ev.step (f := fun k => spec_l1Cur_spoilt.j1 k t w n false l at_ sd) (fun k => ?_) (ev_some fun k => by simp [spec_l1Cur_spoilt.j1])
      simp only [spec_l1Cur_spoilt.l0]
      by_cases h : n > 0
      · rw [if_pos h, decide_eq_false (fun h' => hn ⟨h, h'⟩)]
      · rw [if_neg h]
theorem spoilt_ok {l : List Int} (hl : Bytes l) (t w : ByteArray) (ht : t.size ≤ 1900) (hw : 1 ≤ w.size) (hw2 : w.size ≤ 1000) {at_ sd : Int} (h0 : 0 ≤ at_) (h1 : at_ ≤ 999990000) :
    ∃ v : ByteArray × Int × Int, Ev (fun k => spec_l1Cur_spoilt.f k l at_ sd t w) v ∧ v.1.size ≤ t.size + 2 ∧ at_ ≤ v.2.1 ∧ v.2.1 ≤ at_ + 20 := by
  obtain ⟨p, at', sd', e, a, b, c, d⟩ := pick_ok hl (sd := sd) h0 (by omega) 2 (by omega)
  obtain ⟨r, r1, r2, r3, r4⟩ := spoilt_l0 hl w hw hw2 2 (wrap64 (1 + p)) t at' sd' (by rw [wrap_id (by omega) (by omega)]; omega) (by rw [wrap_id (by omega) (by omega)]; omega) (by omega) (by omega) (by omega)
  refine ⟨r, ?_, r2, by omega, by omega⟩
  unfold spec_l1Cur_spoilt.f
  rw [e]
  exact r1
theorem play_ok {l : List Int} (hl : Bytes l) {at_ sd : Int} (h0 : 0 ≤ at_) (h1 : at_ ≤ 999900000) :
    ∃ v : Int × Int × ByteArray × Int × Int, Ev (fun k => spec_l1Cur_play.f k l at_ sd) v ∧ v.2.2.1.size ≤ 110 ∧ at_ ≤ v.2.2.2.1 ∧ v.2.2.2.1 ≤ at_ + 1000 := by
  obtain ⟨To, Lead, t1, s1, e1, c1, d1⟩ := race_ok hl (sd := sd) h0 (by omega)
  have j0 : ∀ (x : ByteArray) (a s : Int), x.size ≤ 101 → at_ ≤ a → a ≤ at_ + 400 → ∃ v : Int × Int × ByteArray × Int × Int, Ev (fun k => spec_l1Cur_play.j0 k x l a s To Lead) v ∧ v.2.2.1.size ≤ 110 ∧ at_ ≤ v.2.2.2.1 ∧ v.2.2.2.1 ≤ at_ + 1000 := by
    intro x a s hx ha1 ha2
    obtain ⟨p, t2, s2, e2, a2, b2, c2, d2⟩ := pick_ok hl (at_ := a) (sd := s) (by omega) (by omega) 12 (by omega)
    by_cases q0 : p = 0
    · obtain ⟨v, t3, s3, e3, m3, c3, d3⟩ := of_ok hl (at_ := t2) (sd := s2) (by omega) (by omega) [(⟨#[97]⟩ : ByteArray), (⟨#[98]⟩ : ByteArray), (⟨#[97, 97]⟩ : ByteArray), (⟨#[120]⟩ : ByteArray)] (by decide)
      have hv : v.size ≤ 2 := by
        simp only [List.mem_cons, List.not_mem_nil, or_false] at m3
        rcases m3 with rfl | rfl | rfl | rfl <;> decide
      refine ⟨(To, Lead, x ++ v, t3, s3), ev_some fun k => ?_, by simp only [ByteArray.size_append]; omega, by simp only; omega, by simp only; omega⟩
      simp only [spec_l1Cur_play.j0, e2, Option.bind_some, q0, if_true, e3]
      rw [if_pos (by omega)]
    · by_cases q1 : p = 1
      · obtain ⟨r, r1, r2, r3, r4⟩ := spoilt_ok hl x (⟨#[97, 98, 65]⟩ : ByteArray) (by omega) (by decide) (by decide) (at_ := t2) (sd := s2) (by omega) (by omega)
        refine ⟨(To, Lead, r.1, r.2.1, r.2.2), ?_, by simp only; omega, by simp only; omega, by simp only; omega⟩
        refine Ev.step (f := fun k => (spec_l1Cur_spoilt.f k l t2 s2 x (⟨#[97, 98, 65]⟩ : ByteArray)).bind fun bt207 => (some (To, Lead, bt207.1, bt207.2.1, bt207.2.2))) (fun k => ?_) ?_
        · simp only [spec_l1Cur_play.j0, e2, Option.bind_some, q1, if_true]
          rw [if_neg (by decide)]
        · exact Ev.bind (f := fun _ b => some (To, Lead, b.1, b.2.1, b.2.2)) r1 (Ev.now _)
      · refine ⟨(To, Lead, x, t2, s2), ev_some fun k => ?_, by simp only; omega, by simp only; omega, by simp only; omega⟩
        simp only [spec_l1Cur_play.j0, e2, Option.bind_some]
        rw [if_neg q0, if_neg q1]
  unfold spec_l1Cur_play.f
  simp only [e1, Option.bind_some, raGood_eq]
  cases goodR To Lead
  · simp only [Bool.false_eq_true, if_false]
    exact j0 _ _ _ (by decide) (by omega) (by omega)
  · simp only [if_true]
    obtain ⟨r, r1, r2, r3, r4⟩ := surePlay_ok hl (at_ := t1) (sd := s1) (by omega) (by omega) To Lead 14 (by omega) (by omega)
    obtain ⟨v, v1, v2⟩ := j0 r.1 r.2.1 r.2.2 (by omega) (by omega) (by omega)
    exact ⟨v, Ev.bind (f := fun k b => spec_l1Cur_play.j0 k b.1 l b.2.1 b.2.2 To Lead) r1 v1, v2⟩
theorem draw_winner {l : List Int} (hl : Bytes l) : ∃ To Lead s, (∃ k, spec_DrawWinnerOf.f k l = some (To, Lead, s)) ∧ s.size ≤ 110 := by
  obtain ⟨v, v1, v2, _⟩ := play_ok hl (at_ := 0) (sd := 0) (by omega) (by omega)
  obtain ⟨k, hk⟩ := Ev.rounds v1
  refine ⟨v.1, v.2.1, v.2.2.1, ⟨k, ?_⟩, v2⟩
  unfold spec_DrawWinnerOf.f spec_DrawIsPlay.f mkCur.f
  simp only [Option.bind_some, hk]
theorem draw_run {l : List Int} (hl : Bytes l) : ∃ s, (∃ k, spec_DrawLongestRun.f k l = some s) ∧ s.size ≤ 110 := by
  obtain ⟨v, v1, v2, _⟩ := play_ok hl (at_ := 0) (sd := 0) (by omega) (by omega)
  obtain ⟨k, hk⟩ := Ev.rounds v1
  refine ⟨v.2.2.1, ⟨k, ?_⟩, v2⟩
  unfold spec_DrawLongestRun.f spec_DrawIsPlay.f mkCur.f
  simp only [Option.bind_some, hk]
theorem draw_few {l : List Int} (hl : Bytes l) : ∃ To Lead s sd, (∃ k, spec_DrawFewestToWin.f k l = some (To, Lead, s, sd)) ∧ s.size ≤ 110 ∧ sd.size ≤ 2 := by
  obtain ⟨v, v1, v2, v3, v4⟩ := play_ok hl (at_ := 0) (sd := 0) (by omega) (by omega)
  obtain ⟨x, t3, s3, e3, m3, c3, d3⟩ := of_ok hl (at_ := v.2.2.2.1) (sd := v.2.2.2.2) (by omega) (by omega) [(⟨#[97]⟩ : ByteArray), (⟨#[97]⟩ : ByteArray), (⟨#[97]⟩ : ByteArray), (⟨#[98]⟩ : ByteArray), (⟨#[98]⟩ : ByteArray), (⟨#[98]⟩ : ByteArray), (⟨#[]⟩ : ByteArray), (⟨#[99]⟩ : ByteArray), (⟨#[97, 98]⟩ : ByteArray)] (by decide)
  have hx : x.size ≤ 2 := by
    simp only [List.mem_cons, List.not_mem_nil, or_false] at m3
    rcases m3 with rfl | rfl | rfl | rfl | rfl | rfl | rfl | rfl | rfl <;> decide
  obtain ⟨k, hk⟩ := Ev.rounds v1
  refine ⟨v.1, v.2.1, v.2.2.1, x, ⟨k, ?_⟩, v2, hx⟩
  unfold spec_DrawFewestToWin.f mkCur.f
  simp only [Option.bind_some, hk, e3]
theorem draw_servers {l : List Int} (hl : Bytes l) : ∃ s t, (∃ k, spec_DrawServersOf.f k l = some (s, t)) ∧ s.size ≤ 110 := by
  obtain ⟨v, v1, v2, v3, v4⟩ := play_ok hl (at_ := 0) (sd := 0) (by omega) (by omega)
  obtain ⟨x, t3, s3, e3, m3, c3, d3⟩ := among_ok hl (at_ := v.2.2.2.1) (sd := v.2.2.2.2) (by omega) (by omega) [1, 2, 2, 3, 5, 10, 11, 0] (by decide)
  obtain ⟨k, hk⟩ := Ev.rounds v1
  refine ⟨v.2.2.1, x, ⟨k, ?_⟩, v2⟩
  unfold spec_DrawServersOf.f mkCur.f
  simp only [Option.bind_some, hk, e3]
theorem match_j1 {l : List Int} (hl : Bytes l) (wins To Lead : Int) (out : List ByteArray) (hout : out.length ≤ 900) (hz : ∀ x ∈ out, x.size ≤ 110) {at_ sd : Int} (h0 : 0 ≤ at_) (h1 : at_ ≤ 999900000) :
    ∃ pl : List ByteArray, Ev (fun k => spec_DrawMatchOf.j1 k wins out l at_ sd To Lead) (To, Lead, pl, wins) ∧ pl.length ≤ 1000 ∧ ∀ x ∈ pl, x.size ≤ 110 := by
  obtain ⟨b, t2, s2, e2, c2, d2⟩ := one_ok hl (at_ := at_) (sd := sd) h0 (by omega) 12 (by omega)
  cases b
  · refine ⟨out, ev_some fun k => ?_, by omega, hz⟩
    simp only [spec_DrawMatchOf.j1, e2, Option.bind_some, Bool.false_eq_true, if_false]
  · obtain ⟨v, t3, s3, e3, m3, c3, d3⟩ := of_ok hl (at_ := t2) (sd := s2) (by omega) (by omega) [(⟨#[]⟩ : ByteArray), (⟨#[97]⟩ : ByteArray), (⟨#[120]⟩ : ByteArray)] (by decide)
    have hv : v.size ≤ 2 := by
      simp only [List.mem_cons, List.not_mem_nil, or_false] at m3
      rcases m3 with rfl | rfl | rfl <;> decide
    refine ⟨out ++ [v], ev_some fun k => ?_, by rw [List.length_append, List.length_singleton]; omega, fun x hx => ?_⟩
    · simp only [spec_DrawMatchOf.j1, e2, Option.bind_some, if_true, e3]
      rw [if_pos (by omega)]
    · rcases List.mem_append.1 hx with h | h
      · exact hz x h
      · rw [List.mem_singleton.1 h]
        omega
theorem match_l0 {l : List Int} (hl : Bytes l) (wins To Lead : Int) (d : Nat) : ∀ (n : Int) (out : List ByteArray) (at_ sd : Int), n ≤ d → -1 ≤ n → d ≤ 100 → out.length + d ≤ 900 → (∀ x ∈ out, x.size ≤ 110) → 0 ≤ at_ → at_ + 400 * d ≤ 999900000 →
    ∃ pl : List ByteArray, Ev (fun k => spec_DrawMatchOf.l0 k wins out n l at_ sd To Lead) (To, Lead, pl, wins) ∧ pl.length ≤ 1000 ∧ ∀ x ∈ pl, x.size ≤ 110 := by
  induction d with
  | zero =>
    intro n out at_ sd h1 h2 h3 h4 h5 h6 h7
    obtain ⟨pl, p1, p2⟩ := match_j1 hl wins To Lead out (by omega) h5 (at_ := at_) (sd := sd) h6 (by omega)
    refine ⟨pl, Ev.step (fun k => ?_) p1, p2⟩
    simp only [spec_DrawMatchOf.l0]
    rw [if_neg (by omega)]
  | succ d ih =>
    intro n out at_ sd h1 h2 h3 h4 h5 h6 h7
    by_cases hn : n > 0 ∧ goodR To Lead = true
    · obtain ⟨r, r1, r2, r3, r4⟩ := surePlay_ok hl (at_ := at_) (sd := sd) h6 (by omega) To Lead 60 (by omega) (by omega)
      have hw1 : wrap64 (n - 1) = n - 1 := wrap_id (by omega) (by omega)
      obtain ⟨pl, p1, p2⟩ := ih (n - 1) (out ++ [r.1]) r.2.1 r.2.2 (by omega) (by omega) (by omega) (by rw [List.length_append, List.length_singleton]; omega) (fun x hx => by
        rcases List.mem_append.1 hx with h | h
        · exact h5 x h
        · rw [List.mem_singleton.1 h]
          omega) (by omega) (by omega)
      refine ⟨pl, ?_, p2⟩
      refine Ev.step (f := fun k => (spec_l1Cur_surePlay.f k l at_ sd To Lead 60).bind fun bt403 => (if out.length < 8796093022208 then (spec_DrawMatchOf.l0 k wins (out ++ [bt403.1]) (wrap64 (n - 1)) l bt403.2.1 bt403.2.2 To Lead) else (none))) (fun k => ?_) ?_
      · simp only [spec_DrawMatchOf.l0, raGood_eq, Option.bind_some, hn.2, if_true]
        rw [if_pos hn.1]
      · refine Ev.bind r1 ?_
        simp only [show out.length < 8796093022208 by omega, if_true, hw1]
        exact p1
    · obtain ⟨pl, p1, p2⟩ := match_j1 hl wins To Lead out (by omega) h5 (at_ := at_) (sd := sd) h6 (by omega)
      refine ⟨pl, Ev.step (fun k => ?_) p1, p2⟩
      simp only [spec_DrawMatchOf.l0, raGood_eq, Option.bind_some]
      by_cases h : n > 0
      · rw [if_pos h, if_neg (fun h' => hn ⟨h, h'⟩)]
      · rw [if_neg h]
theorem draw_match {l : List Int} (hl : Bytes l) : ∃ To Lead pl wins, (∃ k, spec_DrawMatchOf.f k l = some (To, Lead, pl, wins)) ∧ pl.length ≤ 1000 ∧ ∀ x ∈ pl, x.size ≤ 110 := by
  obtain ⟨To, Lead, t1, s1, e1, c1, d1⟩ := race_ok hl (at_ := 0) (sd := 0) (by omega) (by omega)
  obtain ⟨wins, t2, s2, e2, m2, c2, d2⟩ := among_ok hl (at_ := t1) (sd := s1) (by omega) (by omega) [1, 2, 2, 3, 3, 5, 6, 0] (by decide)
  obtain ⟨p, t3, s3, e3, a3, b3, c3, d3⟩ := pick_ok hl (at_ := t2) (sd := s2) (by omega) (by omega) 6 (by omega)
  obtain ⟨pl, p1, p2, p3⟩ := match_l0 hl wins To Lead 6 p [] t3 s3 (by omega) (by omega) (by omega) (by simp) (by simp) (by omega) (by omega)
  obtain ⟨k, hk⟩ := Ev.rounds p1
  refine ⟨To, Lead, pl, wins, ⟨k, ?_⟩, p2, p3⟩
  unfold spec_DrawMatchOf.f mkCur.f
  simp only [Option.bind_some, e1, e2, e3, hk]
end Go.Proofs.YtiknaldhjbdnbaaGreatDoor.Pure
