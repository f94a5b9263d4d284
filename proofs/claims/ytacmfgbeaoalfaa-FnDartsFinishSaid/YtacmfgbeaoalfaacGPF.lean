/- What each of the functions that laws.FnDartsFinish asks answers at a valid number left and a valid number of darts. No condition. -/
import Derived.Test.YtacmfgbeaoalfaacGPC
import Derived.Test.YtacmfgbeaoalfaacGFw
import Derived.Test.YtacmfgbeaoalfaacQFnDartsFinishx8
import Derived.Test.YtacmfgbeaoalfaacQFnDartsFinishx9
import Derived.Test.YtacmfgbeaoalfaacQFnDartsFinishx10
import Derived.Test.YtacmfgbeaoalfaacQFnDartsFinishx11
import Derived.Test.YtacmfgbeaoalfaacQFnDartsFinishx12
namespace Go.Proofs.Ytacmfgbeaoalfaa.Pure
open Go.RowKit Go.Proofs.Ytacmfgbeaoalfaa.QFnDartsFinish Go.Proofs.YtacmfgbeaoalfaaW.PrintWords Go.Proofs.YtacmfgbeaoalfaaW.PrintLast Go.Proofs.YtacmfgbeaoalfaaW.PrintMore
set_option linter.unusedVariables false
set_option linter.unusedSimpArgs false
theorem l1In_eq (a b c : Int) : spec_l1In.f a b c = some (decide (b ≤ a ∧ a ≤ c)) := by
  unfold spec_l1In.f
  by_cases h : a ≥ b
  · rw [if_pos h]; congr 1; exact decide_eq_decide.2 (by omega)
  · rw [if_neg h]; congr 1; symm; exact decide_eq_false (by omega)
theorem within_eq (a b c : Int) : impl_within.f a b c = some (decide (b ≤ a ∧ a ≤ c)) := by
  unfold impl_within.f
  by_cases h : b ≤ a
  · rw [if_pos h]; congr 1; exact decide_eq_decide.2 (by omega)
  · rw [if_neg h]; congr 1; symm; exact decide_eq_false (by omega)
theorem daLeft_eq (a : Int) : spec_daLeft.f a = some (decide (0 ≤ a ∧ a ≤ 1001)) := by
  unfold spec_daLeft.f
  rw [l1In_eq]
  rfl
theorem daDarts_eq (a : Int) : spec_daDarts.f a = some (decide (1 ≤ a ∧ a ≤ 3)) := by
  unfold spec_daDarts.f
  rw [l1In_eq]
  rfl
theorem isFew_eq (a : Int) : impl_isFew.f a = some (decide (1 ≤ a ∧ a ≤ 3)) := by
  unfold impl_isFew.f
  rw [within_eq]
  rfl
theorem fewL_len : (fewL true).length = 1002 := by
  unfold fewL
  rw [if_pos rfl, tab_len]
theorem rd_fewL (n : Nat) (h : n < 1002) : rd (fewL true) (n : Int) = (tB n : Int) - 1 := by
  unfold fewL
  rw [if_pos rfl, rd_tab _ (by omega) (by omega), Int.toNat_natCast]
def canN (K n : Nat) : Bool := Nat.ble 2 (tB n) && Nat.ble (tB n) (K + 1)
theorem canN_iff (K n : Nat) : canN K n = true ↔ 2 ≤ tB n ∧ tB n ≤ K + 1 := by
  unfold canN
  rw [Bool.and_eq_true, Nat.ble_eq, Nat.ble_eq]
theorem fewest_eq (n : Nat) (h : n < 1002) : impl_FewestDarts.f (n : Int) = some (mx ((tB n : Int) - 1) 0, decide ((tB n : Int) - 1 > 0)) := by
  unfold impl_FewestDarts.f
  rw [within_eq, Option.bind_some, if_pos (decide_eq_true (by omega)), impl_fewest.f, Option.bind_some, if_pos (by omega), if_pos (by rw [fewL_len]; omega), rd_fewL n h]
theorem fewest_no (a : Int) (h : ¬ (0 ≤ a ∧ a ≤ 1001)) : impl_FewestDarts.f a = some (0, false) := by
  unfold impl_FewestDarts.f
  rw [within_eq, Option.bind_some, if_neg (by rw [decide_eq_false h]; decide)]
theorem can_eq (n K : Nat) (h : n < 1002) (h1 : 1 ≤ K) (h3 : K ≤ 3) : impl_CanFinish.f (n : Int) (K : Int) = some (canN K n, true) := by
  unfold impl_CanFinish.f
  rw [within_eq, Option.bind_some, if_pos (decide_eq_true (by omega)), isFew_eq, Option.bind_some, if_pos (decide_eq_true (by omega)), fewest_eq n h, Option.bind_some]
  by_cases c : 2 ≤ tB n
  · have c1 : decide ((tB n : Int) - 1 > 0) = true := decide_eq_true (by omega)
    have c2 : mx ((tB n : Int) - 1) 0 = (tB n : Int) - 1 := by unfold mx; rw [if_neg (by omega)]
    simp only [c1, c2, if_true]
    congr 2
    cases e : canN K n with
    | true => have := (canN_iff K n).1 e; exact decide_eq_true (by omega)
    | false =>
      refine decide_eq_false fun hh => ?_
      have := (canN_iff K n).2 ⟨c, by omega⟩
      rw [e] at this
      cases this
  · have c1 : decide ((tB n : Int) - 1 > 0) = false := decide_eq_false (by omega)
    simp only [c1]
    cases e : canN K n with
    | true => have := (canN_iff K n).1 e; omega
    | false => rfl
theorem can_no (a b : Int) (h : ¬ ((0 ≤ a ∧ a ≤ 1001) ∧ (1 ≤ b ∧ b ≤ 3))) : impl_CanFinish.f a b = some (false, false) := by
  unfold impl_CanFinish.f
  rw [within_eq, Option.bind_some]
  by_cases c : 0 ≤ a ∧ a ≤ 1001
  · rw [if_pos (decide_eq_true c), isFew_eq, Option.bind_some, if_neg (by rw [decide_eq_false (fun hb => h ⟨c, hb⟩)]; decide)]
  · rw [if_neg (by rw [decide_eq_false c]; decide)]
theorem daFinishes_ev (n K : Nat) (hK : K ≤ 17) (hn : n ≤ 1001) : Ev (fun k => spec_daFinishes.f k (n : Int) ((K + 1 : Nat) : Int)) (wrap64 (cF K n : Int)) := by
  have h := cntF_ev K (n + 1) hK (by omega) (by omega)
  rw [show ((n + 1 : Nat) : Int) - 1 = (n : Int) by omega] at h
  refine Ev.bind h ?_
  refine Ev.congr (fun k => ?_) (Ev.now _)
  rw [if_pos (by omega), if_pos (by rw [wt_len]; omega), rd_wt n (by omega)]
theorem cF_w {K : Nat} (hK : K ≤ 3) (n : Nat) : wrap64 (cF K n : Int) = (cF K n : Int) := by
  have := cF_bd hK n
  exact wrap_id (by omega) (by omega)
theorem cB_w {K : Nat} (hK : K ≤ 3) (n : Nat) : wrap64 (cB K n : Int) = (cB K n : Int) := by
  have := cB_bd hK n
  exact wrap_id (by omega) (by omega)
def orF (n : Nat) : Nat → Nat → Bool
  | 0, _ => false
  | m + 1, x => Nat.blt 0 (cF x n) || orF n m (x + 1)
theorem daCan_l0 (n K : Nat) (hn : n ≤ 1001) (hK : K ≤ 3) : ∀ m x : Nat, x + m = K → Ev (fun k => spec_daCan.l0 k (n : Int) (K : Int) ((x + 1 : Nat) : Int)) (orF n m x) := by
  intro m
  induction m with
  | zero =>
    intro x hx
    refine ev_some fun k => ?_
    simp only [spec_daCan.l0]
    rw [if_neg (by omega)]
    rfl
  | succ m ih =>
    intro x hx
    have h1 := daFinishes_ev n x (by omega) hn
    rw [cF_w (by omega)] at h1
    have hw : wrap64 (((x + 1 : Nat) : Int) + 1) = ((x + 1 + 1 : Nat) : Int) := by rw [wrap_id (by omega) (by omega)]; omega
    have h2 : Ev (fun k => (spec_daFinishes.f k (n : Int) ((x + 1 : Nat) : Int)).bind fun t246 => (if t246 > 0 then (some true) else (spec_daCan.l0 k (n : Int) (K : Int) (wrap64 (((x + 1 : Nat) : Int) + 1))))) (orF n (m + 1) x) := by
      refine Ev.bind h1 ?_
      rw [hw]
      show Ev _ (Nat.blt 0 (cF x n) || orF n m (x + 1))
      by_cases c : 0 < cF x n
      · have e : Nat.blt 0 (cF x n) = true := Nat.ble_eq_true_of_le c
        rw [e]
        refine Ev.congr (fun k => ?_) (Ev.now _)
        rw [if_pos (by omega)]
        rfl
      · have e : Nat.blt 0 (cF x n) = false := by
          cases e : Nat.blt 0 (cF x n) with
          | false => rfl
          | true => exact absurd (Nat.le_of_ble_eq_true e) c
        rw [e]
        refine Ev.congr (fun k => ?_) (ih (x + 1) (by omega))
        rw [if_neg (by omega)]
    refine Ev.step (fun k => ?_) h2
    simp only [spec_daCan.l0]
    rw [if_pos (by omega)]
theorem daCan_ev (n K : Nat) (hn : n ≤ 1001) (hK : K ≤ 3) : Ev (fun k => spec_daCan.f k (n : Int) (K : Int)) (orF n K 0) := daCan_l0 n K hn hK K 0 (by omega)
theorem scan_ev (n K : Nat) (hn : n ≤ 1001) (h1 : 1 ≤ K) (hK : K ≤ 3) : Ev (fun k => spec_CanFinish.f k (n : Int) (K : Int)) (orF n K 0, true) := by
  have h : Ev (fun k => (spec_daCan.f k (n : Int) (K : Int)).bind fun t249 => some (t249, true)) (orF n K 0, true) := Ev.bind (daCan_ev n K hn hK) (Ev.now _)
  refine Ev.congr (fun k => ?_) h
  unfold spec_CanFinish.f
  rw [daLeft_eq, Option.bind_some, if_pos (decide_eq_true (by omega)), daDarts_eq, Option.bind_some, if_pos (decide_eq_true (by omega))]
theorem scount_ev (n K : Nat) (hn : n ≤ 1001) (hK : K ≤ 2) : Ev (fun k => spec_CountFinishes.f k (n : Int) ((K + 1 : Nat) : Int)) ((cF K n : Int), true) := by
  have h1 := daFinishes_ev n K (by omega) hn
  rw [cF_w (by omega)] at h1
  have h : Ev (fun k => (spec_daFinishes.f k (n : Int) ((K + 1 : Nat) : Int)).bind fun t => some (t, true)) ((cF K n : Int), true) := Ev.bind h1 (Ev.now _)
  refine Ev.congr (fun k => ?_) h
  unfold spec_CountFinishes.f
  rw [daLeft_eq, Option.bind_some, if_pos (decide_eq_true (by omega)), daDarts_eq, Option.bind_some, if_pos (decide_eq_true (by omega))]
theorem sways_ev (n K : Nat) (hn : n ≤ 1001) (h1 : 1 ≤ K) (hK : K ≤ 3) : Ev (fun k => spec_CountWaysTo.f k (n : Int) (K : Int)) ((cB K n : Int), true) ∧ Ev (fun k => spec_CanScore.f k (n : Int) (K : Int)) (decide ((cB K n : Int) > 0), true) := by
  have h := cntB_ev K (n + 1) (by omega) (by omega) (by omega)
  rw [show ((n + 1 : Nat) : Int) - 1 = (n : Int) by omega] at h
  have e : rd (wt (n + 1) (cB K)) (n : Int) = (cB K n : Int) := by rw [rd_wt n (by omega), cB_w hK]
  refine ⟨?_, ?_⟩
  · have h2 : Ev (fun k => (spec_daCount.f k (K : Int) (n : Int) false).bind fun t293 => (if 0 ≤ (n : Int) then (if (n : Int) < (t293.length : Int) then (some (rd t293 (n : Int), true)) else (none)) else (none))) ((cB K n : Int), true) := Ev.bind h (Ev.congr (fun k => by rw [if_pos (by omega), if_pos (by rw [wt_len]; omega), e]) (Ev.now _))
    refine Ev.congr (fun k => ?_) h2
    unfold spec_CountWaysTo.f
    rw [daLeft_eq, Option.bind_some, if_pos (decide_eq_true (by omega)), daDarts_eq, Option.bind_some, if_pos (decide_eq_true (by omega))]
  · have h2 : Ev (fun k => (spec_daCount.f k (K : Int) (n : Int) false).bind fun t287 => (if 0 ≤ (n : Int) then (if (n : Int) < (t287.length : Int) then (some (decide (rd t287 (n : Int) > 0), true)) else (none)) else (none))) (decide ((cB K n : Int) > 0), true) := Ev.bind h (Ev.congr (fun k => by rw [if_pos (by omega), if_pos (by rw [wt_len]; omega), e]) (Ev.now _))
    refine Ev.congr (fun k => ?_) h2
    unfold spec_CanScore.f
    rw [daLeft_eq, Option.bind_some, if_pos (decide_eq_true (by omega)), daDarts_eq, Option.bind_some, if_pos (decide_eq_true (by omega))]
theorem at_eq (F : Nat → Nat) (n : Nat) (h0 : ∀ j, 181 ≤ j → F j = 0) (hw : wrap64 (F n : Int) = (F n : Int)) : impl_at.f (wt 181 F) (n : Int) = some (F n : Int) := by
  unfold impl_at.f
  rw [wt_len]
  by_cases c : n < 181
  · rw [if_pos (by omega), if_pos (by omega), rd_wt n c, hw]
  · rw [if_neg (by omega), h0 n (by omega)]
    rfl
theorem cF_sup {K : Nat} (hK : K ≤ 2) : ∀ j, 181 ≤ j → cF K j = 0 := fun j hj => by
  rw [← cF_eqS (by omega)]
  exact cv_sup dbN_ok (itB_sup K dl 1 dl_sup) j (by omega)
theorem cB_sup {K : Nat} (hK : K ≤ 3) : ∀ j, 181 ≤ j → cB K j = 0 := fun j hj => by
  rw [← cB_eq (by omega)]
  exact itB_sup K dl 1 dl_sup j (by omega)
theorem icount_ev (n K : Nat) (hn : n ≤ 1001) (hK : K ≤ 2) : Ev (fun k => impl_CountFinishes.f k (n : Int) ((K + 1 : Nat) : Int)) ((cF K n : Int), true) := by
  have h : Ev (fun k => (impl_waysTo.f k ((K + 1 : Nat) : Int) true).bind fun t270 => ((impl_at.f t270 (n : Int)).bind fun t273 => (some (t273, true)))) ((cF K n : Int), true) :=
    Ev.bind (waysF_ev K (by omega)) (Ev.congr (fun k => by rw [at_eq _ n (cF_sup hK) (cF_w (by omega) n), Option.bind_some]) (Ev.now _))
  have h2 : Ev (fun k => impl_CountFinishes.j0 k (n : Int) ((K + 1 : Nat) : Int) false) ((cF K n : Int), true) := Ev.step (fun k => by simp only [impl_CountFinishes.j0]; rw [if_neg (by decide)]) h
  refine Ev.congr (fun k => ?_) h2
  unfold impl_CountFinishes.f
  rw [within_eq, Option.bind_some, if_pos (decide_eq_true (by omega)), isFew_eq, Option.bind_some, decide_eq_true (by omega)]
  rfl
theorem iways_ev (n K : Nat) (hn : n ≤ 1001) (h1 : 1 ≤ K) (hK : K ≤ 3) : Ev (fun k => impl_CountWaysTo.f k (n : Int) (K : Int)) ((cB K n : Int), true) ∧ Ev (fun k => impl_CanScore.f k (n : Int) (K : Int)) (decide ((cB K n : Int) > 0), true) := by
  have h : Ev (fun k => (impl_waysTo.f k (K : Int) false).bind fun t270 => ((impl_at.f t270 (n : Int)).bind fun t273 => (some (t273, true)))) ((cB K n : Int), true) :=
    Ev.bind (waysB_ev K (by omega)) (Ev.congr (fun k => by rw [at_eq _ n (cB_sup hK) (cB_w hK n), Option.bind_some]) (Ev.now _))
  have h2 : Ev (fun k => impl_CountWaysTo.j0 k (n : Int) (K : Int) false) ((cB K n : Int), true) := Ev.step (fun k => by simp only [impl_CountWaysTo.j0]; rw [if_neg (by decide)]) h
  have h3 : Ev (fun k => impl_CountWaysTo.f k (n : Int) (K : Int)) ((cB K n : Int), true) := by
    refine Ev.congr (fun k => ?_) h2
    unfold impl_CountWaysTo.f
    rw [within_eq, Option.bind_some, if_pos (decide_eq_true (by omega)), isFew_eq, Option.bind_some, decide_eq_true (by omega)]
    rfl
  exact ⟨h3, Ev.bind h3 (Ev.now _)⟩
def cp (F : Nat → Nat) : Nat → Nat → Nat
  | 0, _ => 0
  | m + 1, i => (bif Nat.blt 0 (F i) then 1 else 0) + cp F m (i + 1)
theorem blt_t {a : Nat} (h : 0 < a) : Nat.blt 0 a = true := Nat.ble_eq_true_of_le h
theorem blt_f {a : Nat} (h : ¬ 0 < a) : Nat.blt 0 a = false := by
  cases e : Nat.blt 0 a with
  | false => rfl
  | true => exact absurd (Nat.le_of_ble_eq_true e) h
theorem cs_l0 (F : Nat → Nat) (hF : ∀ j, F j ≤ 1000000000) : ∀ m i x : Nat, i + m = 181 → x ≤ i →
    Ev (fun k => impl_CountScores.l0 k (x : Int) (wt 181 F) 181 (i : Int)) (((x + cp F m i : Nat) : Int), true) ∧ Ev (fun k => spec_CountScores.l0 k (x : Int) (wt 181 F) 181 (i : Int)) (((x + cp F m i : Nat) : Int), true) := by
  intro m
  induction m with
  | zero =>
    intro i x hi hx
    refine ⟨ev_some fun k => ?_, ev_some fun k => ?_⟩
    · simp only [impl_CountScores.l0]
      rw [if_neg (by omega)]
      rfl
    · simp only [spec_CountScores.l0]
      rw [if_neg (by omega)]
      rfl
  | succ m ih =>
    intro i x hi hx
    have hv : rd (wt 181 F) (i : Int) = (F i : Int) := by rw [rd_wt i (by omega)]; exact wrap_id (by omega) (by have := hF i; omega)
    have w1 : wrap64 ((i : Int) + 1) = ((i + 1 : Nat) : Int) := by rw [wrap_id (by omega) (by omega)]; rfl
    have w2 : wrap64 ((x : Int) + 1) = ((x + 1 : Nat) : Int) := by rw [wrap_id (by omega) (by omega)]; rfl
    by_cases c : 0 < F i
    · have e : cp F (m + 1) i = 1 + cp F m (i + 1) := by
        show (bif Nat.blt 0 (F i) then 1 else 0) + _ = _
        rw [blt_t c]
        rfl
      rw [e, show x + (1 + cp F m (i + 1)) = (x + 1) + cp F m (i + 1) by omega]
      obtain ⟨p, q⟩ := ih (i + 1) (x + 1) (by omega) (by omega)
      refine ⟨Ev.step (fun k => ?_) p, Ev.step (fun k => ?_) q⟩
      · simp only [impl_CountScores.l0]
        rw [if_pos (by omega), if_pos (by omega), if_pos (by rw [wt_len]; omega), hv, if_pos (by omega), w1, w2]
      · simp only [spec_CountScores.l0]
        rw [if_pos (by omega), if_pos (by omega), if_pos (by rw [wt_len]; omega), hv, if_pos (by omega), w1, w2]
    · have e : cp F (m + 1) i = cp F m (i + 1) := by
        show (bif Nat.blt 0 (F i) then 1 else 0) + _ = _
        rw [blt_f c]
        exact Nat.zero_add _
      rw [e]
      obtain ⟨p, q⟩ := ih (i + 1) x (by omega) (by omega)
      refine ⟨Ev.step (fun k => ?_) p, Ev.step (fun k => ?_) q⟩
      · simp only [impl_CountScores.l0]
        rw [if_pos (by omega), if_pos (by omega), if_pos (by rw [wt_len]; omega), hv, if_neg (by omega), w1]
      · simp only [spec_CountScores.l0]
        rw [if_pos (by omega), if_pos (by omega), if_pos (by rw [wt_len]; omega), hv, if_neg (by omega), w1]
theorem cs_ev (K : Nat) (h1 : 1 ≤ K) (hK : K ≤ 3) : Ev (fun k => impl_CountScores.f k (K : Int)) ((cp (cB K) 181 0 : Int), true) ∧ Ev (fun k => spec_CountScores.f k (K : Int)) ((cp (cB K) 181 0 : Int), true) := by
  obtain ⟨p, q⟩ := cs_l0 (cB K) (fun j => by have := cB_bd hK j; omega) 181 0 0 rfl (Nat.le_refl _)
  rw [Nat.zero_add] at p q
  have hs := cntB_ev K 181 (by omega) (by omega) (by omega)
  refine ⟨?_, ?_⟩
  · have h2 : Ev (fun k => (impl_waysTo.f k (K : Int) false).bind fun t379 => (impl_CountScores.l0 k 0 t379 (t379.length : Int) 0)) ((cp (cB K) 181 0 : Int), true) := Ev.bind (waysB_ev K (by omega)) (by rw [wt_len]; exact p)
    refine Ev.congr (fun k => ?_) h2
    unfold impl_CountScores.f
    rw [isFew_eq, Option.bind_some, if_pos (decide_eq_true (by omega))]
  · have h2 : Ev (fun k => (spec_daCount.f k (K : Int) 180 false).bind fun t384 => (spec_CountScores.l0 k 0 t384 (t384.length : Int) 0)) ((cp (cB K) 181 0 : Int), true) := Ev.bind hs (by rw [wt_len]; exact q)
    refine Ev.congr (fun k => ?_) h2
    unfold spec_CountScores.f
    rw [daDarts_eq, Option.bind_some, if_pos (decide_eq_true (by omega))]
theorem hf_impl (K h : Nat) (h1 : 1 ≤ K) (hK : K ≤ 3) (h0 : 1 ≤ h) (hc : canN K h = true) : ∀ m : Nat, h + m ≤ 1001 → (∀ j, h < j → j ≤ h + m → canN K j = false) → Ev (fun k => impl_HighestFinish.l0 k (K : Int) (fewL true) ((h + m : Nat) : Int)) ((h : Int), true) := by
  have hin : ∀ j : Nat, j < 1002 → impl_within.f (rd (fewL true) (j : Int)) 1 (K : Int) = some (canN K j) := by
    intro j hj
    rw [within_eq, rd_fewL j hj]
    congr 1
    cases e : canN K j with
    | true => have := (canN_iff K j).1 e; exact decide_eq_true (by omega)
    | false =>
      refine decide_eq_false fun hh => ?_
      have := (canN_iff K j).2 (by omega)
      rw [e] at this
      cases this
  intro m
  induction m with
  | zero =>
    intro hm _
    refine ev_some fun k => ?_
    simp only [impl_HighestFinish.l0]
    rw [if_pos (by omega), if_pos (by omega), if_pos (by rw [fewL_len]; omega), hin (h + 0) (by omega), Option.bind_some, Nat.add_zero, if_pos hc]
  | succ m ih =>
    intro hm hz
    refine Ev.step (fun k => ?_) (ih (by omega) (fun j a b => hz j a (by omega)))
    have w1 : wrap64 (((h + (m + 1) : Nat) : Int) - 1) = ((h + m : Nat) : Int) := by rw [wrap_id (by omega) (by omega)]; omega
    simp only [impl_HighestFinish.l0]
    rw [if_pos (by omega), if_pos (by omega), if_pos (by rw [fewL_len]; omega), hin (h + (m + 1)) (by omega), Option.bind_some, hz (h + (m + 1)) (by omega) (by omega), if_neg (by decide), w1]
theorem hf_spec (K h : Nat) (hK : K ≤ 3) (hc : orF h K 0 = true) : ∀ m : Nat, h + m ≤ 1001 → (∀ j, h < j → j ≤ h + m → orF j K 0 = false) → Ev (fun k => spec_HighestFinish.l0 k (K : Int) ((h + m : Nat) : Int)) ((h : Int), true) := by
  intro m
  induction m with
  | zero =>
    intro hm _
    have h1 := daCan_ev (h + 0) K (by omega) hK
    rw [Nat.add_zero, hc] at h1
    have h2 : Ev (fun k => (spec_daCan.f k ((h + 0 : Nat) : Int) (K : Int)).bind fun t377 => (if t377 = true then (some (((h + 0 : Nat) : Int), true)) else (spec_HighestFinish.l0 k (K : Int) (wrap64 (((h + 0 : Nat) : Int) - 1))))) ((h : Int), true) := Ev.bind h1 (Ev.congr (fun k => by rw [if_pos rfl]; rfl) (Ev.now _))
    refine Ev.step (fun k => ?_) h2
    simp only [spec_HighestFinish.l0]
  | succ m ih =>
    intro hm hz
    have h1 := daCan_ev (h + (m + 1)) K (by omega) hK
    rw [hz (h + (m + 1)) (by omega) (by omega)] at h1
    have w1 : wrap64 (((h + (m + 1) : Nat) : Int) - 1) = ((h + m : Nat) : Int) := by rw [wrap_id (by omega) (by omega)]; omega
    have h2 : Ev (fun k => (spec_daCan.f k ((h + (m + 1) : Nat) : Int) (K : Int)).bind fun t377 => (if t377 = true then (some (((h + (m + 1) : Nat) : Int), true)) else (spec_HighestFinish.l0 k (K : Int) (wrap64 (((h + (m + 1) : Nat) : Int) - 1))))) ((h : Int), true) := Ev.bind h1 (Ev.congr (fun k => by rw [if_neg (by decide), w1]) (ih (by omega) (fun j a b => hz j a (by omega))))
    refine Ev.step (fun k => ?_) h2
    simp only [spec_HighestFinish.l0]
theorem hf_ev (K h : Nat) (h1 : 1 ≤ K) (hK : K ≤ 3) (h0 : 1 ≤ h) (h180 : h ≤ 180) (hc : canN K h = true) (hz : ∀ j, h < j → j ≤ 1001 → canN K j = false) (hs : ∀ j, j ≤ 1001 → orF j K 0 = canN K j) :
    Ev (fun k => impl_HighestFinish.f k (K : Int)) ((h : Int), true) ∧ Ev (fun k => spec_HighestFinish.f k (K : Int)) ((h : Int), true) := by
  refine ⟨?_, ?_⟩
  · have h2 := hf_impl K h h1 hK h0 hc (1001 - h) (by omega) (fun j a b => hz j a (by omega))
    rw [show h + (1001 - h) = 1001 by omega] at h2
    refine Ev.congr (fun k => ?_) h2
    unfold impl_HighestFinish.f
    rw [isFew_eq, Option.bind_some, if_pos (decide_eq_true (by omega)), impl_fewest.f, Option.bind_some]
    rfl
  · have h2 := hf_spec K h hK (by rw [hs h (by omega)]; exact hc) (180 - h) (by omega) (fun j a b => by rw [hs j (by omega)]; exact hz j a (by omega))
    rw [show h + (180 - h) = 180 by omega] at h2
    refine Ev.congr (fun k => ?_) h2
    unfold spec_HighestFinish.f
    rw [daDarts_eq, Option.bind_some, if_pos (decide_eq_true (by omega))]
    rfl
theorem fd_l0 (n few : Nat) (hn : n ≤ 1001) (hf : few ≤ 16) (hp : wrap64 (cF few n : Int) ≠ 0) : ∀ m x : Nat, x + m = few → (∀ y, x ≤ y → y < few → cF y n = 0) → Ev (fun k => spec_FewestDarts.l0 k (n : Int) ((x + 1 : Nat) : Int)) (((few + 1 : Nat) : Int), true) := by
  intro m
  induction m with
  | zero =>
    intro x hx _
    have hx : x = few := by omega
    subst hx
    have h2 : Ev (fun k => (spec_daFinishes.f k (n : Int) ((x + 1 : Nat) : Int)).bind fun t361 => (if t361 = 0 then (spec_FewestDarts.l0 k (n : Int) (wrap64 (((x + 1 : Nat) : Int) + 1))) else (some (((x + 1 : Nat) : Int), true)))) (((x + 1 : Nat) : Int), true) := Ev.bind (daFinishes_ev n x (by omega) hn) (Ev.congr (fun k => by rw [if_neg hp]) (Ev.now _))
    refine Ev.step (fun k => ?_) h2
    simp only [spec_FewestDarts.l0]
  | succ m ih =>
    intro x hx hz
    have h1 := daFinishes_ev n x (by omega) hn
    rw [hz x (by omega) (by omega)] at h1
    have w1 : wrap64 (((x + 1 : Nat) : Int) + 1) = ((x + 1 + 1 : Nat) : Int) := by rw [wrap_id (by omega) (by omega)]; omega
    have w0 : wrap64 ((0 : Nat) : Int) = 0 := wrap_id (by omega) (by omega)
    have h2 : Ev (fun k => (spec_daFinishes.f k (n : Int) ((x + 1 : Nat) : Int)).bind fun t361 => (if t361 = 0 then (spec_FewestDarts.l0 k (n : Int) (wrap64 (((x + 1 : Nat) : Int) + 1))) else (some (((x + 1 : Nat) : Int), true)))) (((few + 1 : Nat) : Int), true) := Ev.bind h1 (Ev.congr (fun k => by rw [if_pos w0, w1]) (ih (x + 1) (by omega) (fun y a b => hz y (by omega) b)))
    refine Ev.step (fun k => ?_) h2
    simp only [spec_FewestDarts.l0]
theorem fd_ev (n few : Nat) (h2 : 2 ≤ n) (hn : n ≤ 1001) (hf : few ≤ 16) (hp : wrap64 (cF few n : Int) ≠ 0) (h0 : (n + 59) / 60 ≤ few + 1) (hz : ∀ y, (n + 59) / 60 ≤ y + 1 → y < few → cF y n = 0) : Ev (fun k => spec_FewestDarts.f k (n : Int)) (((few + 1 : Nat) : Int), true) := by
  have hq : 1 ≤ (n + 59) / 60 := by omega
  have h := fd_l0 n few hn hf hp (few + 1 - (n + 59) / 60) ((n + 59) / 60 - 1) (by omega) (fun y a b => hz y (by omega) b)
  refine Ev.congr (fun k => ?_) h
  unfold spec_FewestDarts.f
  have w1 : wrap64 ((n : Int) + 59) = ((n + 59 : Nat) : Int) := by rw [wrap_id (by omega) (by omega)]; omega
  have w2 : Int.tdiv ((n + 59 : Nat) : Int) 60 = (((n + 59) / 60 : Nat) : Int) := rfl
  rw [l1In_eq, Option.bind_some, if_pos (decide_eq_true (by omega)), w1, w2, wrap_id (by omega) (by omega)]
  congr 1
  omega
end Go.Proofs.Ytacmfgbeaoalfaa.Pure
