/- laws.FnDartsFinish returns true at all bytes. No condition beside the types' own bounds. -/
import Derived.Test.YtacmfgbeaoalfaacGPI
import Derived.Test.YtacmfgbeaoalfaacGDLaw
import Derived.Laws.Bits64b
import Derived.OpenShut
namespace Go.Proofs.Ytacmfgbeaoalfaa.Pure
open Go.RowKit Go.Proofs.Ytacmfgbeaoalfaa.QFnDartsFinish Go.Proofs.YtacmfgbeaoalfaaW.PrintWords Go.Proofs.YtacmfgbeaoalfaaW.PrintLast Go.Proofs.YtacmfgbeaoalfaaW.PrintMore
set_option linter.unusedVariables false
set_option linter.unusedSimpArgs false
def Bytes (l : List Int) : Prop := (∀ x ∈ l, 0 ≤ x ∧ x ≤ 255) ∧ l.length ≤ 1048576
theorem rd_mem (l : List Int) (i : Int) (h0 : 0 ≤ i) (h1 : i < (l.length : Int)) : rd l i ∈ l := by
  unfold rd
  have h : i.toNat < l.length := by omega
  rw [List.getD_eq_getElem?_getD, List.getElem?_eq_getElem h, Option.getD_some]
  exact List.getElem_mem h
theorem and255 (x : Int) (h0 : 0 ≤ x) (h1 : x < 18446744073709551616) : 0 ≤ wrap64 (Go.bits .and .u64 (x / 1099511627776) 255) ∧ wrap64 (Go.bits .and .u64 (x / 1099511627776) 255) ≤ 255 := by
  obtain ⟨n, rfl⟩ := Int.eq_ofNat_of_zero_le h0
  have e : ((n : Int) / 1099511627776) = ((n / 1099511627776 : Nat) : Int) := by omega
  have h := bits_and_u64_nat (n / 1099511627776) 255 (by omega) (by omega)
  have h2 : (n / 1099511627776) &&& 255 ≤ 255 := Nat.and_le_right
  rw [e, show (255 : Int) = ((255 : Nat) : Int) from rfl, h, wrap_id (by omega) (by omega)]
  omega
theorem u64_rng (x : Int) : 0 ≤ IntKind.u64.wrap x ∧ IntKind.u64.wrap x < 18446744073709551616 := by
  unfold IntKind.wrap
  simp [IntKind.bits, IntKind.signed]
  omega
theorem next_ok {l : List Int} (hl : Bytes l) {at_ sd : Int} (h0 : 0 ≤ at_) (h1 : at_ ≤ 1000000000) : ∃ v sd', spec_l1Cur_next.f l at_ sd = some (v, at_ + 1, sd') ∧ 0 ≤ v ∧ v ≤ 255 := by
  have hw : wrap64 (at_ + 1) = at_ + 1 := wrap_id (by omega) (by omega)
  have hn := hl.2
  unfold spec_l1Cur_next.f
  rw [hw]
  by_cases h : at_ < (l.length : Int)
  · rw [if_pos h, if_pos h0, if_pos (by omega)]
    have := hl.1 _ (rd_mem l at_ h0 h)
    rw [wrap_id (i := rd l at_) (by omega) (by omega)]
    exact ⟨_, _, rfl, this⟩
  · rw [if_neg h, if_neg (by omega)]
    exact ⟨_, _, rfl, and255 _ (u64_rng _).1 (u64_rng _).2⟩
theorem pick_ok {l : List Int} (hl : Bytes l) {at_ sd : Int} (h0 : 0 ≤ at_) (h1 : at_ ≤ 999999998) (n : Int) (hn : 1 ≤ n) : ∃ v at' sd', spec_l1Cur_pick.f l at_ sd n = some (v, at', sd') ∧ 0 ≤ v ∧ v < n ∧ at_ ≤ at' ∧ at' ≤ at_ + 2 := by
  unfold spec_l1Cur_pick.f
  by_cases h : n ≤ 1
  · rw [if_pos h]
    exact ⟨_, _, _, rfl, by omega, by omega, by omega, by omega⟩
  · rw [if_neg h]
    obtain ⟨v, sd', e, v0, v1⟩ := next_ok hl (sd := sd) h0 (by omega)
    rw [e, Option.bind_some]
    by_cases h2 : n > 200
    · rw [if_pos h2]
      obtain ⟨v', sd2, e2, w0, w1⟩ := next_ok hl (at_ := at_ + 1) (sd := sd') (by omega) (by omega)
      simp only
      rw [e2, Option.bind_some, if_neg (by omega)]
      simp only
      rw [wrap_id (i := v * 256) (by omega) (by omega), wrap_id (by omega) (by omega)]
      exact ⟨_, _, _, rfl, Int.tmod_nonneg _ (by omega), Int.tmod_lt_of_pos _ (by omega), by omega, by omega⟩
    · rw [if_neg h2, if_neg (by omega)]
      simp only
      exact ⟨_, _, _, rfl, Int.tmod_nonneg _ (by omega), Int.tmod_lt_of_pos _ (by omega), by omega, by omega⟩
theorem among_ok {l : List Int} (hl : Bytes l) {at_ sd : Int} (h0 : 0 ≤ at_) (h1 : at_ ≤ 999999998) (m : List Int) (hm : 1 ≤ (m.length : Int)) : ∃ v at' sd', spec_l1Cur_among.f l at_ sd m = some (v, at', sd') ∧ v ∈ m ∧ at_ ≤ at' ∧ at' ≤ at_ + 2 := by
  obtain ⟨v, at', sd', e, a, b, c, d⟩ := pick_ok hl (sd := sd) h0 h1 m.length hm
  unfold spec_l1Cur_among.f
  rw [e, Option.bind_some]
  simp only
  rw [if_pos a, if_pos b]
  exact ⟨_, _, _, rfl, rd_mem m v a b, c, d⟩
theorem one_ok {l : List Int} (hl : Bytes l) {at_ sd : Int} (h0 : 0 ≤ at_) (h1 : at_ ≤ 999999998) (n : Int) (hn : 1 ≤ n) : ∃ v at' sd', spec_l1Cur_one.f l at_ sd n = some (v, at', sd') ∧ at_ ≤ at' ∧ at' ≤ at_ + 2 := by
  obtain ⟨v, at', sd', e, a, b, c, d⟩ := pick_ok hl (sd := sd) h0 h1 n hn
  unfold spec_l1Cur_one.f
  rw [e, Option.bind_some]
  exact ⟨_, _, _, rfl, c, d⟩
theorem big_eq (l0 l1 : List Int) : ∃ b, laws_big.f l0 l1 = some b ∧ (b = false → l0.length ≤ 1048576 ∧ l1.length ≤ 1048576) := by
  unfold laws_big.f
  by_cases h : (l0.length : Int) > 1048576
  · rw [if_pos h]
    exact ⟨true, rfl, fun h' => by cases h'⟩
  · rw [if_neg h]
    refine ⟨_, rfl, fun h' => ?_⟩
    have h2 := of_decide_eq_false h'
    rw [wrap_id (by omega) (by omega)] at h2
    omega
theorem tk1 {K j : Nat} (hK : K ≤ 2) (hj : j ≤ 1001) : cF K j ≤ cB (K + 1) j ∧ orF j (K + 1) 0 = canN (K + 1) j := by
  have h : ck1 K j = true := by
    have hm : j ∈ List.range 1002 := List.mem_range.2 (by omega)
    have : K = 0 ∨ K = 1 ∨ K = 2 := by omega
    rcases this with rfl | rfl | rfl
    · exact List.all_eq_true.1 chk1_0 j hm
    · exact List.all_eq_true.1 chk1_1 j hm
    · exact List.all_eq_true.1 chk1_2 j hm
  unfold ck1 at h
  rw [Bool.and_eq_true] at h
  exact ⟨Nat.le_of_ble_eq_true h.1, by simpa using h.2⟩
theorem tk1' {K : Nat} (h1 : 1 ≤ K) (hK : K ≤ 3) : ∀ j, j ≤ 1001 → orF j K 0 = canN K j := fun j hj => by
  obtain ⟨m, rfl⟩ : ∃ m, K = m + 1 := ⟨K - 1, by omega⟩
  exact (tk1 (by omega) hj).2
theorem tk2 {j : Nat} (hj : j ≤ 1001) : (j < 2 → tB j = 0) ∧ (2 ≤ j → 2 ≤ tB j ∧ j ≤ 60 * (tB j - 1)) := by
  have h := List.all_eq_true.1 chk2 j (List.mem_range.2 (by omega))
  by_cases c : j < 2
  · have e : Nat.blt j 2 = true := Nat.ble_eq_true_of_le (by omega)
    rw [e] at h
    exact ⟨fun _ => Nat.eq_of_beq_eq_true h, fun h2 => by omega⟩
  · have e : Nat.blt j 2 = false := by
      cases e : Nat.blt j 2 with
      | false => rfl
      | true => have := Nat.le_of_ble_eq_true e; omega
    rw [e] at h
    have h2 : (Nat.ble 2 (tB j) && Nat.ble j (60 * (tB j - 1))) = true := h
    rw [Bool.and_eq_true] at h2
    exact ⟨fun h3 => by omega, fun _ => ⟨Nat.le_of_ble_eq_true h2.1, Nat.le_of_ble_eq_true h2.2⟩⟩
theorem inp_le {n : Nat} (h : n ∈ inp) : n ≤ 1001 := by
  unfold inp at h
  rcases List.mem_append.1 h with h | h
  · have := List.mem_range.1 h
    omega
  · rcases List.mem_cons.1 h with h | h
    · omega
    · have := List.mem_singleton.1 h
      omega
theorem tk3 {n : Nat} (hn : n ∈ inp) (h2 : 2 ≤ n) : Ev (fun k => spec_FewestDarts.f k (n : Int)) ((tB n : Int) - 1, true) := by
  have h := List.all_eq_true.1 chk3 n hn
  have hle := inp_le hn
  have ht := (tk2 hle).2 h2
  unfold ck3 at h
  have e : Nat.blt n 2 = false := by
    cases e : Nat.blt n 2 with
    | false => rfl
    | true => have := Nat.le_of_ble_eq_true e; omega
  rw [e] at h
  have h3 : (Nat.ble (tB n) 18 && Nat.ble ((n + 59) / 60) (tB n - 1) && (List.range (tB n - 2)).all (fun y => Nat.blt (y + 1) ((n + 59) / 60) || Nat.beq (cF y n) 0) && Nat.blt 0 (cF (tB n - 2) n) && Nat.blt (cF (tB n - 2) n) 9223372036854775808) = true := h
  simp only [Bool.and_eq_true] at h3
  obtain ⟨⟨⟨⟨a, b⟩, c⟩, d⟩, f⟩ := h3
  have a := Nat.le_of_ble_eq_true a
  have b := Nat.le_of_ble_eq_true b
  have d : 0 < cF (tB n - 2) n := Nat.le_of_ble_eq_true d
  have f : cF (tB n - 2) n < 9223372036854775808 := Nat.le_of_ble_eq_true f
  have hw : wrap64 (cF (tB n - 2) n : Int) = (cF (tB n - 2) n : Int) := wrap_id (by omega) (by omega)
  have g := fd_ev n (tB n - 2) h2 hle (by omega) (by rw [hw]; omega) (by omega) (fun y p q => by
    have := List.all_eq_true.1 c y (List.mem_range.2 q)
    rw [Bool.or_eq_true] at this
    rcases this with this | this
    · have : y + 1 < (n + 59) / 60 := Nat.le_of_ble_eq_true this
      omega
    · exact Nat.eq_of_beq_eq_true this)
  rwa [show ((tB n - 2 + 1 : Nat) : Int) = (tB n : Int) - 1 by omega] at g
structure FF (n : Nat) : Prop where
  same : fI (tB n - 1) n = fS (tB n - 2) n
  len : (fI (tB n - 1) n).length = tB n - 1
  last : (rd_T43 (fI (tB n - 1) n) (((fI (tB n - 1) n).length : Int) - 1)).f1 = 2
  vis : impl_visitLeaves.f 40 (n : Int) (fI (tB n - 1) n) = some (0, false, true)
  all : laws_bAll.f 20 (fI (tB n - 1) n) = some ((n : Int), true)
  drt : laws_bDarts.f 20 (fI (tB n - 1) n) (fI (tB n - 1) n) = some true
theorem tk4 {n : Nat} (hn : n ∈ inp) (h1 : 2 ≤ tB n) (h2 : tB n ≤ 4) : FF n := by
  have h := List.all_eq_true.1 chk4 n hn
  unfold ck4 at h
  have e : (Nat.blt (tB n) 2 || Nat.blt 4 (tB n)) = false := by
    have e1 : Nat.blt (tB n) 2 = false := by
      cases e : Nat.blt (tB n) 2 with
      | false => rfl
      | true => have := Nat.le_of_ble_eq_true e; omega
    have e2 : Nat.blt 4 (tB n) = false := by
      cases e : Nat.blt 4 (tB n) with
      | false => rfl
      | true => have := Nat.le_of_ble_eq_true e; omega
    rw [e1, e2]
    rfl
  rw [e] at h
  replace h : (eqL (fI (tB n - 1) n) (fS (tB n - 2) n) && Nat.beq (fI (tB n - 1) n).length (tB n - 1) &&
    decide ((rd_T43 (fI (tB n - 1) n) (((fI (tB n - 1) n).length : Int) - 1)).f1 = 2) &&
    decide (impl_visitLeaves.f 40 (n : Int) (fI (tB n - 1) n) = some (0, false, true)) &&
    decide (laws_bAll.f 20 (fI (tB n - 1) n) = some ((n : Int), true)) && decide (laws_bDarts.f 20 (fI (tB n - 1) n) (fI (tB n - 1) n) = some true)) = true := h
  simp only [Bool.and_eq_true] at h
  obtain ⟨⟨⟨⟨⟨a, b⟩, c⟩, d⟩, f⟩, g⟩ := h
  exact ⟨eqL_eq _ _ a, Nat.eq_of_beq_eq_true b, of_decide_eq_true c, of_decide_eq_true d, of_decide_eq_true f, of_decide_eq_true g⟩
theorem tk5 {K : Nat} (h1 : 1 ≤ K) (hK : K ≤ 3) : canN K (hi K) = true ∧ (∀ j, hi K < j → j ≤ 1001 → canN K j = false) ∧ 43 ≤ cp (cB K) 181 0 ∧ cp (cB K) 181 0 ≤ 180 ∧ 1 ≤ hi K ∧ hi K ≤ 170 := by
  have h : ck5 K = true := List.all_eq_true.1 chk5 K (by
    have : K = 1 ∨ K = 2 ∨ K = 3 := by omega
    rcases this with rfl | rfl | rfl <;> simp)
  unfold ck5 at h
  simp only [Bool.and_eq_true] at h
  obtain ⟨⟨⟨a, b⟩, c⟩, d⟩ := h
  refine ⟨a, fun j p q => ?_, Nat.le_of_ble_eq_true c, Nat.le_of_ble_eq_true d, ?_⟩
  · have := List.all_eq_true.1 b j (List.mem_range.2 (by omega))
    rw [Bool.or_eq_true] at this
    rcases this with this | this
    · have := Nat.le_of_ble_eq_true this
      omega
    · simpa using this
  · have : K = 1 ∨ K = 2 ∨ K = 3 := by omega
    rcases this with rfl | rfl | rfl <;> decide
theorem orF_zero {j : Nat} : ∀ {m x : Nat}, orF j m x = false → ∀ y, x ≤ y → y < x + m → cF y j = 0
  | 0, x, _, y, a, b => by omega
  | m + 1, x, h, y, a, b => by
    have h : (Nat.blt 0 (cF x j) || orF j m (x + 1)) = false := h
    rw [Bool.or_eq_false_iff] at h
    by_cases e : y = x
    · subst e
      by_cases c : 0 < cF y j
      · rw [blt_t c] at h
        cases h.1
      · omega
    · exact orF_zero h.2 y (by omega) (by omega)
theorem no_ev {a b : Int} (h : ¬ ((0 ≤ a ∧ a ≤ 1001) ∧ (1 ≤ b ∧ b ≤ 3))) :
    (Ev (fun k => impl_FirstFinish.f k a b) ([], false) ∧ Ev (fun k => spec_FirstFinish.f k a b) ([], false)) ∧
    Ev (fun k => spec_CanFinish.f k a b) (false, false) ∧
    (Ev (fun k => impl_CountFinishes.f k a b) (0, false) ∧ Ev (fun k => spec_CountFinishes.f k a b) (0, false)) ∧
    (Ev (fun k => impl_CanScore.f k a b) (false, false) ∧ Ev (fun k => spec_CanScore.f k a b) (false, false)) ∧
    (Ev (fun k => impl_CountWaysTo.f k a b) (0, false) ∧ Ev (fun k => spec_CountWaysTo.f k a b) (0, false)) ∧
    (Ev (fun k => impl_NoFinishes.f k a b) ([], false) ∧ Ev (fun k => spec_NoFinishes.f k a b) ([], false)) := by
  have j1 : Ev (fun k => impl_FirstFinish.j0 k a true) (([] : List S43), false) := ev_some fun k => by simp only [impl_FirstFinish.j0, if_true]
  have j2 : Ev (fun k => spec_FirstFinish.j0 k a b true) (([] : List S43), false) := ev_some fun k => by simp only [spec_FirstFinish.j0, if_true]
  have j3 : Ev (fun k => impl_CountFinishes.j0 k a b true) ((0 : Int), false) := ev_some fun k => by simp only [impl_CountFinishes.j0, if_true]
  have j4 : Ev (fun k => impl_CountWaysTo.j0 k a b true) ((0 : Int), false) := ev_some fun k => by simp only [impl_CountWaysTo.j0, if_true]
  have j5 : Ev (fun k => impl_NoFinishes.j0 k a b true) (([] : List Int), false) := ev_some fun k => by simp only [impl_NoFinishes.j0, if_true]
  have j6 : Ev (fun k => spec_NoFinishes.j0 k a b true) (([] : List Int), false) := ev_some fun k => by simp only [spec_NoFinishes.j0, if_true]
  have w : Ev (fun k => impl_CountWaysTo.f k a b) (0, false) := by
    refine Ev.congr (fun k => ?_) j4
    unfold impl_CountWaysTo.f
    rw [within_eq, Option.bind_some]
    by_cases c : 0 ≤ a ∧ a ≤ 1001
    · rw [if_pos (decide_eq_true c), isFew_eq, Option.bind_some, decide_eq_false (fun hb => h ⟨c, hb⟩)]
      rfl
    · rw [if_neg (by rw [decide_eq_false c]; decide)]
  refine ⟨⟨?_, ?_⟩, ?_, ⟨?_, ?_⟩, ⟨Ev.bind w (Ev.now _), ?_⟩, ⟨w, ?_⟩, ⟨?_, ?_⟩⟩
  · refine Ev.congr (fun k => ?_) j1
    unfold impl_FirstFinish.f
    rw [can_no a b h, Option.bind_some]
    rfl
  all_goals
    by_cases c : 0 ≤ a ∧ a ≤ 1001
  · refine Ev.congr (fun k => ?_) j2
    unfold spec_FirstFinish.f
    rw [daLeft_eq, Option.bind_some, if_pos (decide_eq_true c), daDarts_eq, Option.bind_some, decide_eq_false (fun hb => h ⟨c, hb⟩)]
    rfl
  · refine Ev.congr (fun k => ?_) j2
    unfold spec_FirstFinish.f
    rw [daLeft_eq, Option.bind_some, if_neg (by rw [decide_eq_false c]; decide)]
  · refine Ev.congr (fun k => ?_) (Ev.now _)
    unfold spec_CanFinish.f
    rw [daLeft_eq, Option.bind_some, if_pos (decide_eq_true c), daDarts_eq, Option.bind_some, if_neg (by rw [decide_eq_false (fun hb => h ⟨c, hb⟩)]; decide)]
  · refine Ev.congr (fun k => ?_) (Ev.now _)
    unfold spec_CanFinish.f
    rw [daLeft_eq, Option.bind_some, if_neg (by rw [decide_eq_false c]; decide)]
  · refine Ev.congr (fun k => ?_) j3
    unfold impl_CountFinishes.f
    rw [within_eq, Option.bind_some, if_pos (decide_eq_true c), isFew_eq, Option.bind_some, decide_eq_false (fun hb => h ⟨c, hb⟩)]
    rfl
  · refine Ev.congr (fun k => ?_) j3
    unfold impl_CountFinishes.f
    rw [within_eq, Option.bind_some, if_neg (by rw [decide_eq_false c]; decide)]
  · refine Ev.congr (fun k => ?_) (Ev.now _)
    unfold spec_CountFinishes.f
    rw [daLeft_eq, Option.bind_some, if_pos (decide_eq_true c), daDarts_eq, Option.bind_some, if_neg (by rw [decide_eq_false (fun hb => h ⟨c, hb⟩)]; decide)]
  · refine Ev.congr (fun k => ?_) (Ev.now _)
    unfold spec_CountFinishes.f
    rw [daLeft_eq, Option.bind_some, if_neg (by rw [decide_eq_false c]; decide)]
  · refine Ev.congr (fun k => ?_) (Ev.now _)
    unfold spec_CanScore.f
    rw [daLeft_eq, Option.bind_some, if_pos (decide_eq_true c), daDarts_eq, Option.bind_some, if_neg (by rw [decide_eq_false (fun hb => h ⟨c, hb⟩)]; decide)]
  · refine Ev.congr (fun k => ?_) (Ev.now _)
    unfold spec_CanScore.f
    rw [daLeft_eq, Option.bind_some, if_neg (by rw [decide_eq_false c]; decide)]
  · refine Ev.congr (fun k => ?_) (Ev.now _)
    unfold spec_CountWaysTo.f
    rw [daLeft_eq, Option.bind_some, if_pos (decide_eq_true c), daDarts_eq, Option.bind_some, if_neg (by rw [decide_eq_false (fun hb => h ⟨c, hb⟩)]; decide)]
  · refine Ev.congr (fun k => ?_) (Ev.now _)
    unfold spec_CountWaysTo.f
    rw [daLeft_eq, Option.bind_some, if_neg (by rw [decide_eq_false c]; decide)]
  · refine Ev.congr (fun k => ?_) j5
    unfold impl_NoFinishes.f
    rw [within_eq, Option.bind_some, if_pos (decide_eq_true c), isFew_eq, Option.bind_some, decide_eq_false (fun hb => h ⟨c, hb⟩)]
    rfl
  · refine Ev.congr (fun k => ?_) j5
    unfold impl_NoFinishes.f
    rw [within_eq, Option.bind_some, if_neg (by rw [decide_eq_false c]; decide)]
  · refine Ev.congr (fun k => ?_) j6
    unfold spec_NoFinishes.f
    rw [daLeft_eq, Option.bind_some, if_pos (decide_eq_true c), daDarts_eq, Option.bind_some, decide_eq_false (fun hb => h ⟨c, hb⟩)]
    rfl
  · refine Ev.congr (fun k => ?_) j6
    unfold spec_NoFinishes.f
    rw [daLeft_eq, Option.bind_some, if_neg (by rw [decide_eq_false c]; decide)]
theorem dn_nil : laws_bDarts.f 2 [] [] = some true := by kernel_rfl
theorem a1_true {l0 : List Int} {left darts : Int} (hd : spec_DrawFirstFinish.f l0 = some (left, darts)) (hl : ∀ n : Nat, left = (n : Int) → n ≤ 1001 → n ∈ inp) : ∃ first ok vv can score count ways none_, A1 l0 left darts first ok vv can score count ways none_ := by
  by_cases hv : (0 ≤ left ∧ left ≤ 1001) ∧ (1 ≤ darts ∧ darts ≤ 3)
  · obtain ⟨n, rfl⟩ := Int.eq_ofNat_of_zero_le hv.1.1
    obtain ⟨K, rfl⟩ : ∃ K : Nat, darts = ((K + 1 : Nat) : Int) := ⟨(darts - 1).toNat, by omega⟩
    have hn : n ≤ 1001 := by omega
    have hK : K ≤ 2 := by omega
    have hin := hl n rfl hn
    have h1 : 1 ≤ K + 1 := by omega
    have h3 : K + 1 ≤ 3 := by omega
    have hor := tk1' h1 h3
    have e8 := can_eq n (K + 1) (by omega) h1 h3
    have e9 := scan_ev n (K + 1) hn h1 h3
    rw [hor n hn] at e9
    have e10 := icount_ev n K hn hK
    have e11 := scount_ev n K hn hK
    have e14 := iways_ev n (K + 1) hn h1 h3
    have e15 := sways_ev n (K + 1) hn h1 h3
    have e16 := inof_ev n (K + 1) hn h1 h3
    have e17 := snof_ev n (K + 1) hn h1 h3 hor
    have hlen := noL_len (K + 1) (n - 1) 2
    have sN := same_ev (noL (K + 1) (n - 1) 2) (by omega)
    have hris := rises_ev (noL (K + 1) (n - 1) 2) (noL_inc (K + 1) (n - 1) 2) (by omega)
    have hhas := has_ev (noL (K + 1) (n - 1) 2) (n : Int) (by omega)
    have ehas : decide ((n : Int) ∈ noL (K + 1) (n - 1) 2) = (decide (1 < (n : Int)) && !canN (K + 1) n) := by
      have hm := noL_mem (K + 1) n (n - 1) 2
      cases ec : canN (K + 1) n with
      | true =>
        rw [decide_eq_false (fun h => by have := (hm.1 h).2.2; rw [ec] at this; cases this)]
        simp
      | false =>
        by_cases c : 1 < (n : Int)
        · rw [decide_eq_true (hm.2 ⟨by omega, by omega, ec⟩), decide_eq_true c]
          rfl
        · rw [decide_eq_false (fun h => by have := (hm.1 h).1; omega), decide_eq_false c]
          rfl
    rw [ehas] at hhas
    have hck := tk1 hK hn
    have hpos : 0 < cF K n → canN (K + 1) n = true := fun hp => by
      cases ec : canN (K + 1) n with
      | true => rfl
      | false =>
        have := orF_zero (hck.2.trans ec) K (by omega) (by omega)
        omega
    have tf : TF (n : Int) ((K + 1 : Nat) : Int) (canN (K + 1) n) (decide ((cB (K + 1) n : Int) > 0)) (cF K n : Int) (cB (K + 1) n : Int) (noL (K + 1) (n - 1) 2) := by
      refine ⟨rfl, by have := hck.1; omega, fun hp => hpos (by omega), hris.rounds, hhas.rounds, by omega, fun hlt => ?_⟩
      have hK1 : 1 ≤ K := by omega
      have e := can_eq n K (by omega) hK1 (by omega)
      rw [show (K : Int) = ((K + 1 : Nat) : Int) - 1 by omega] at e
      refine ⟨_, e, fun h => ?_, fun ht hf => ?_⟩
      · have := (canN_iff K n).1 h
        exact (canN_iff (K + 1) n).2 (by omega)
      · have hz := orF_zero ((tk1' hK1 (by omega) n hn).trans hf)
        by_cases c : cF K n = 0
        · have : orF n (K + 1) 0 = false := by
            rw [orF_snoc, (tk1' hK1 (by omega) n hn).trans hf, Nat.zero_add, c]
            rfl
          rw [hor n hn, ht] at this
          cases this
        · omega
    by_cases hc : canN (K + 1) n = true
    · have hb := (canN_iff (K + 1) n).1 hc
      have F := tk4 hin (by omega) (by omega)
      have e6 := iff_ev n (K + 1) hn h1 h3
      rw [if_pos hc] at e6
      obtain ⟨f, hf⟩ : ∃ f, tB n = f + 2 := ⟨tB n - 2, by omega⟩
      have hfK : f < K + 1 := by omega
      have hfc : 0 < cF f n ∧ ∀ y, y < f → cF y n = 0 := by
        have hz : ∀ y, y < f → cF y n = 0 := fun y hy => by
          have hno : canN f n = false := by
            cases e : canN f n with
            | false => rfl
            | true => have := (canN_iff f n).1 e; omega
          exact orF_zero ((tk1' (by omega) (by omega) n hn).trans hno) y (by omega) (by omega)
        refine ⟨?_, hz⟩
        by_cases c : cF f n = 0
        · have hyes : canN (f + 1) n = true := (canN_iff (f + 1) n).2 (by omega)
          have h0 := (tk1' (K := f + 1) (by omega) (by omega) n hn).trans hyes
          have : ∀ m x, (∀ y, x ≤ y → y < x + m → cF y n = 0) → orF n m x = false := by
            intro m
            induction m with
            | zero => intro x _; rfl
            | succ m ih =>
              intro x hx
              show (Nat.blt 0 (cF x n) || orF n m (x + 1)) = false
              rw [hx x (by omega) (by omega), ih (x + 1) (fun y a b => hx y (by omega) (by omega))]
              rfl
          rw [this (f + 1) 0 (fun y a b => by
            by_cases e : y = f
            · rw [e]; exact c
            · exact hz y (by omega))] at h0
          cases h0
        · omega
      have e7 := sff_ev n (K + 1) hn h1 h3 _ (sff_l0 n (K + 1) f hn h3 hfK hfc.1 hfc.2 f 0 (by omega))
      rw [show fS f n = fI (tB n - 1) n by rw [F.same, hf]; rfl] at e7
      have of_ : OF (n : Int) ((K + 1 : Nat) : Int) (fI (tB n - 1) n) := by
        have hl := F.len
        refine ⟨⟨_, F.all⟩, ?_, by omega, F.last, ⟨40, ?_⟩, ⟨40, ?_⟩⟩
        · rw [fewest_eq n (by omega), F.len]
          have c1 : decide ((tB n : Int) - 1 > 0) = true := decide_eq_true (by omega)
          have c2 : mx ((tB n : Int) - 1) 0 = (tB n : Int) - 1 := by unfold mx; rw [if_neg (by omega)]
          rw [c1, c2]
          congr 2
          omega
        · unfold impl_LeftAfter.f
          rw [F.vis]
          rfl
        · unfold impl_IsBust.f
          rw [F.vis]
          rfl
      rw [hc] at e8 e9 tf
      exact ⟨_, true, true, true, _, _, _, _, ⟨hd, e6.rounds, e7.rounds, e8, e9.rounds, e10.rounds, e11.rounds, e14.2.rounds, e15.2.rounds, e14.1.rounds, e15.1.rounds, e16.rounds, e17.rounds, ⟨_, F.drt⟩, sN.rounds, rfl, fun _ => tf, fun _ => of_⟩⟩
    · have hc2 : canN (K + 1) n = false := by simpa using hc
      have e6 := iff_ev n (K + 1) hn h1 h3
      rw [if_neg hc] at e6
      have e7 := sff_ev n (K + 1) hn h1 h3 _ (sff_no n (K + 1) hn h3 (fun y hy => orF_zero (hck.2.trans hc2) y (by omega) (by omega)) (K + 1) 0 (by omega))
      rw [hc2] at e8 e9 tf
      exact ⟨[], false, true, false, _, _, _, _, ⟨hd, e6.rounds, e7.rounds, e8, e9.rounds, e10.rounds, e11.rounds, e14.2.rounds, e15.2.rounds, e14.1.rounds, e15.1.rounds, e16.rounds, e17.rounds, ⟨_, dn_nil⟩, sN.rounds, rfl, fun _ => tf, fun h => by cases h⟩⟩
  · obtain ⟨⟨p1, q1⟩, q2, ⟨p3, q3⟩, ⟨p4, q4⟩, ⟨p5, q5⟩, p6, q6⟩ := no_ev hv
    exact ⟨[], false, false, false, false, 0, 0, [], ⟨hd, p1.rounds, q1.rounds, can_no left darts hv, q2.rounds, p3.rounds, q3.rounds, p4.rounds, q4.rounds, p5.rounds, q5.rounds, p6.rounds, q6.rounds, ⟨_, dn_nil⟩, (same_ev [] (by simp)).rounds, rfl, (fun h => by cases h), (fun h => by cases h)⟩⟩
theorem a2_true {l1 : List Int} {a q : Int} (hd : spec_DrawFewestDarts.f l1 = some a) (hq : spec_DrawHighestFinish.f l1 = some q) (hl : ∀ n : Nat, a = (n : Int) → n ≤ 1001 → n ∈ inp) : ∃ few high scores e t, A2 l1 a few q high scores e t := by
  have hF : ∃ few e, impl_FewestDarts.f a = some (few, e) ∧ (∃ k, spec_FewestDarts.f k a = some (few, e)) ∧ (e = true → EF a few) := by
    by_cases hv : 0 ≤ a ∧ a ≤ 1001
    · obtain ⟨n, rfl⟩ := Int.eq_ofNat_of_zero_le hv.1
      have hn : n ≤ 1001 := by omega
      have hin := hl n rfl hn
      have hi := fewest_eq n (by omega)
      by_cases c : 2 ≤ n
      · obtain ⟨t1, t2⟩ := (tk2 hn).2 c
        have tl := tB_lt n
        have c1 : decide ((tB n : Int) - 1 > 0) = true := decide_eq_true (by omega)
        have c2 : mx ((tB n : Int) - 1) 0 = (tB n : Int) - 1 := by unfold mx; rw [if_neg (by omega)]
        rw [c1, c2] at hi
        refine ⟨_, _, hi, (tk3 hin c).rounds, fun _ => ⟨by omega, by omega, by omega, fun h => ⟨by omega, ?_⟩⟩⟩
        have e := can_eq n (tB n - 1) (by omega) (by omega) (by omega)
        rw [(canN_iff (tB n - 1) n).2 (by omega), show ((tB n - 1 : Nat) : Int) = (tB n : Int) - 1 by omega] at e
        exact e
      · have t0 := (tk2 hn).1 (by omega)
        have c1 : decide ((tB n : Int) - 1 > 0) = false := decide_eq_false (by omega)
        have c2 : mx ((tB n : Int) - 1) 0 = 0 := by unfold mx; rw [if_pos (by omega)]
        rw [c1, c2] at hi
        refine ⟨_, _, hi, ⟨1, ?_⟩, fun h => by cases h⟩
        unfold spec_FewestDarts.f
        rw [l1In_eq, Option.bind_some, if_neg (by rw [decide_eq_false (by omega)]; decide)]
    · refine ⟨_, _, fewest_no a hv, ⟨1, ?_⟩, fun h => by cases h⟩
      unfold spec_FewestDarts.f
      rw [l1In_eq, Option.bind_some, if_neg (by rw [decide_eq_false (by omega)]; decide)]
  have hH : ∃ high scores t, (∃ k, impl_HighestFinish.f k q = some (high, t)) ∧ (∃ k, spec_HighestFinish.f k q = some (high, t)) ∧ (∃ k, impl_CountScores.f k q = some (scores, t)) ∧ (∃ k, spec_CountScores.f k q = some (scores, t)) ∧ (t = true → HF q high scores) := by
    by_cases hv : 1 ≤ q ∧ q ≤ 3
    · obtain ⟨K, rfl⟩ := Int.eq_ofNat_of_zero_le (show 0 ≤ q by omega)
      have h1 : 1 ≤ K := by omega
      have h3 : K ≤ 3 := by omega
      obtain ⟨a1, a2, a3, a4, a5, a6⟩ := tk5 h1 h3
      obtain ⟨p1, p2⟩ := hf_ev K (hi K) h1 h3 a5 (by omega) a1 a2 (tk1' h1 h3)
      obtain ⟨p3, p4⟩ := cs_ev K h1 h3
      refine ⟨_, _, _, p1.rounds, p2.rounds, p3.rounds, p4.rounds, fun _ => ⟨by omega, ?_, ?_, by omega⟩⟩
      · rw [can_eq (hi K) K (by omega) h1 h3, a1]
      · have e := can_eq (hi K + 1) K (by omega) h1 h3
        rw [a2 (hi K + 1) (by omega) (by omega)] at e
        exact e
    · refine ⟨0, 0, false, ⟨1, ?_⟩, ⟨1, ?_⟩, ⟨1, ?_⟩, ⟨1, ?_⟩, fun h => by cases h⟩
      · unfold impl_HighestFinish.f
        rw [isFew_eq, Option.bind_some, if_neg (by rw [decide_eq_false hv]; decide)]
      · unfold spec_HighestFinish.f
        rw [daDarts_eq, Option.bind_some, if_neg (by rw [decide_eq_false hv]; decide)]
      · unfold impl_CountScores.f
        rw [isFew_eq, Option.bind_some, if_neg (by rw [decide_eq_false hv]; decide)]
      · unfold spec_CountScores.f
        rw [daDarts_eq, Option.bind_some, if_neg (by rw [decide_eq_false hv]; decide)]
  obtain ⟨few, e, f1, f2, f3⟩ := hF
  obtain ⟨high, scores, t, g1, g2, g3, g4, g5⟩ := hH
  exact ⟨few, high, scores, e, t, ⟨hd, f1, f2, hq, g1, g2, g3, g4, f3, g5⟩⟩
theorem left_ok {l : List Int} (hl : Bytes l) {at_ sd : Int} (h0 : 0 ≤ at_) (h1 : at_ ≤ 1000000) : ∃ v at' sd', spec_l1Cur_left.f l at_ sd = some (v, at', sd') ∧ (∀ n : Nat, v = (n : Int) → n ≤ 1001 → n ∈ inp) ∧ at_ ≤ at' ∧ at' ≤ at_ + 4 := by
  have hmem : ∀ n : Nat, n < 190 ∨ n = 501 ∨ n = 1001 → n ∈ inp := fun n h => by
    unfold inp
    rcases h with h | h | h
    · exact List.mem_append.2 (.inl (List.mem_range.2 h))
    · exact List.mem_append.2 (.inr (by simp [h]))
    · exact List.mem_append.2 (.inr (by simp [h]))
  obtain ⟨b, t1, s1, e1, x1, x2⟩ := one_ok hl (sd := sd) h0 (by omega) 8 (by omega)
  unfold spec_l1Cur_left.f
  rw [e1, Option.bind_some]
  cases b with
  | true =>
    obtain ⟨v, t2, s2, e2, m, y1, y2⟩ := among_ok hl (sd := s1) (show 0 ≤ t1 by omega) (by omega) [(-1), 0, 1, 2, 180, 501, 1001, 1002, 4611686018427387904] (by decide)
    simp only [if_true]
    rw [e2, Option.bind_some]
    refine ⟨v, t2, s2, rfl, fun n hn hle => hmem n ?_, by omega, by omega⟩
    simp only [List.mem_cons, List.not_mem_nil, or_false] at m
    omega
  | false =>
    obtain ⟨v, t2, s2, e2, v0, v1, y1, y2⟩ := pick_ok hl (sd := s1) (show 0 ≤ t1 by omega) (by omega) 190 (by omega)
    simp only [Bool.false_eq_true, if_false]
    rw [e2, Option.bind_some]
    exact ⟨v, t2, s2, rfl, fun n hn hle => hmem n (by omega), by omega, by omega⟩
theorem few_ok {l : List Int} (hl : Bytes l) {at_ sd : Int} (h0 : 0 ≤ at_) (h1 : at_ ≤ 1000000) : ∃ v at' sd', spec_l1Cur_few.f l at_ sd = some (v, at', sd') := by
  obtain ⟨v, t2, s2, e2, m, y1, y2⟩ := among_ok hl (sd := sd) h0 (by omega) [1, 2, 2, 3, 3, 3, 4, 0, (-1)] (by decide)
  unfold spec_l1Cur_few.f
  rw [e2, Option.bind_some]
  exact ⟨_, _, _, rfl⟩
theorem draw_first {l : List Int} (hl : Bytes l) : ∃ a b, spec_DrawFirstFinish.f l = some (a, b) ∧ ∀ n : Nat, a = (n : Int) → n ≤ 1001 → n ∈ inp := by
  obtain ⟨v, t1, s1, e1, m, x1, x2⟩ := left_ok hl (at_ := 0) (sd := 0) (by omega) (by omega)
  obtain ⟨u, t2, s2, e2⟩ := few_ok hl (at_ := t1) (sd := s1) (by omega) (by omega)
  refine ⟨v, u, ?_, m⟩
  unfold spec_DrawFirstFinish.f spec_DrawCanScore.f mkCur.f
  simp only [Option.bind_some, e1, e2]
theorem draw_few {l : List Int} (hl : Bytes l) : ∃ a, spec_DrawFewestDarts.f l = some a ∧ ∀ n : Nat, a = (n : Int) → n ≤ 1001 → n ∈ inp := by
  obtain ⟨v, t1, s1, e1, m, x1, x2⟩ := left_ok hl (at_ := 0) (sd := 0) (by omega) (by omega)
  refine ⟨v, ?_, m⟩
  unfold spec_DrawFewestDarts.f mkCur.f
  simp only [Option.bind_some, e1]
theorem draw_high {l : List Int} (hl : Bytes l) : ∃ a, spec_DrawHighestFinish.f l = some a := by
  obtain ⟨u, t2, s2, e2⟩ := few_ok hl (at_ := 0) (sd := 0) (by omega) (by omega)
  refine ⟨u, ?_⟩
  unfold spec_DrawHighestFinish.f spec_DrawCountScores.f mkCur.f
  simp only [Option.bind_some, e2]
set_option maxHeartbeats 16000000 in
set_option maxRecDepth 1000000 in
theorem law_true (A0 : Option Addr) (c0 : Nat) (l0 : List Int) (A1_ : Option Addr) (c1 : Nat) (l1 : List Int) (w : World) (hr0 : Kd.C (Kd.int .u8) w A0 l0.length l0) (hc0 : l0.length ≤ c0) (hr1 : Kd.C (Kd.int .u8) w A1_ l1.length l1) (hc1 : l1.length ≤ c1)
    (hz0 : ∀ x ∈ l0, (Lit.int .u8 x).wf = true) (hz1 : ∀ x ∈ l1, (Lit.int .u8 x).wf = true) :
    Calls Try.prog 3 #[.slice A0 l0.length c0, .slice A1_ l1.length c1] w fun e w' => e = .returned (.bool true) ∧ Below w.heap.size w w' := by
  obtain ⟨b, hb, hbn⟩ := big_eq l0 l1
  cases b
  · obtain ⟨n0, n1⟩ := hbn rfl
    have B0 : Bytes l0 := ⟨fun x hx => bounds_u8 (hz0 x hx), n0⟩
    have B1 : Bytes l1 := ⟨fun x hx => bounds_u8 (hz1 x hx), n1⟩
    obtain ⟨left, darts, d1, hl⟩ := draw_first B0
    obtain ⟨first, ok, vv, can, score, count, ways, none_, f1⟩ := a1_true d1 hl
    obtain ⟨n, d2, hn⟩ := draw_few B1
    obtain ⟨q, d3⟩ := draw_high B1
    obtain ⟨few, high, scores, e, t, f2⟩ := a2_true d2 d3 hn
    exact law.calls A0 c0 l0 A1_ c1 l1 w hr0 hc0 hr1 hc1 hb left darts first ok vv can score count ways none_ f1 n few q high scores e t f2
  · have HR0 := Aside0.mk hr0
    have HC0 := Aside0.mk hc0
    have HR1 := Aside0.mk hr1
    have HC1 := Aside0.mk hc1
    have HG := Aside0.mk hb
    clear hr0 hc0 hr1 hc1 hb hbn hz0 hz1
    go_enter Try.func3, Try.ntmps3
    go_wp2_with (first
      | (go_at_call 4; (with_reducible refine (laws_big.calls A0 c0 l0 A1_ c1 l1 true _ HR0.out HC0.out HR1.out HC1.out HG.out).mono ?_); rintro e w1 ⟨rfl, ⟨m1, rfl⟩⟩))
    all_goals first
      | (go_ret; exact ⟨rfl, pw_below_drewN (Below.refl w.heap.size w) _⟩)
      | exact ⟨rfl, _, rfl, rfl, pw_below_drewN (Below.refl w.heap.size w) _⟩
end Go.Proofs.Ytacmfgbeaoalfaa.Pure
