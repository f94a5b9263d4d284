/- impl's deuce, DeuceChance and MeanDeuce, walked, in the printed contracts' form. -/
import Derived.Test.YtmkjkcfmjfeheaaGMD
namespace Go.Proofs.Ytmkjkcfmjfeheaa.QFnExactMeanDeuce
open Go.RowKit Go.Proofs.YtmkjkcfmjfeheaaW.PrintWords Go.Proofs.YtmkjkcfmjfeheaaW.PrintLast Go.Proofs.YtmkjkcfmjfeheaaW.PrintMore
set_option linter.unusedVariables false
set_option linter.unusedSimpArgs false
theorem isOpen_val (a b : Int) : impl_Odds_isOpen.f a b = some (decide (0 < a ∧ a < b ∧ b ≤ 10)) := by
  unfold impl_Odds_isOpen.f impl_AreOdds.f impl_within.f
  by_cases h1 : 1 ≤ b
  · rw [if_pos h1]
    by_cases h2 : b ≤ 10
    · rw [decide_eq_true h2]
      by_cases h3 : 0 ≤ a
      · rw [if_pos h3]
        by_cases h4 : a ≤ b
        · rw [decide_eq_true h4]
          by_cases h5 : 0 < a
          · by_cases h6 : a < b
            · simp [h5, h6, h2]
            · simp [h6]
          · simp [h5]
        · rw [decide_eq_false h4]
          have : ¬ (0 < a ∧ a < b ∧ b ≤ 10) := by omega
          simp [this]
      · rw [if_neg h3]
        have : ¬ (0 < a ∧ a < b ∧ b ≤ 10) := by omega
        simp [this]
    · rw [decide_eq_false h2]
      simp [h2]
  · rw [if_neg h1]
    have : ¬ (0 < a ∧ a < b ∧ b ≤ 10) := by omega
    simp [this]
theorem okR_to {r : Q2} (h : okR r = true) : 0 ≤ r.1 ∧ r.1 < 4294967296 ∧ r.2 ≠ 0 ∧ r.2 < 4294967296 := of_decide_eq_true h
set_option maxHeartbeats 8000000 in
set_option maxRecDepth 100000 in
theorem deuce.calls (w : World) (n d : Int) (h0 : 0 < n) (h1 : n < d) (h2 : d ≤ 10) :
    Calls Try.prog 21 #[.agg #[.int .i64 n, .int .i64 d]] w fun e w' => ∃ b, e = .returned (.pointer (some ⟨b, 0, none⟩)) ∧ IsQ w' b (dF n d).1 (dF n d).2 ∧ Below w.heap.size w w' := by
  have hu26 := Try.underlying26
  have OK := OkF.of n d (okF_all n d h0 h1 h2)
  have B0 := Aside0.mk (below_alloc (Below.refl _ w) (.cells #[.int .i64 n, .int .i64 d] 26 (0, 0)))
  have HN := Aside0.mk (And.intro h0 (And.intro h1 h2))
  clear h0 h1 h2
  go_enter Try.func21, Try.ntmps21
  go_wp2_with fail
  refine (twice.calls _ n d HN.out.1 HN.out.2.1 HN.out.2.2).mono ?_
  rintro e w1 ⟨a, b, rfl, ha, hb, hab, hga, hgb, hbl⟩
  have hb1 := below_alloc (Below.refl _ w1) (.cells #[.bool false, .slice none 0 0, .slice none 0 0] 43 (0, 0))
  have R1 := Aside0.mk (ha.below hb1)
  have S1 := Aside0.mk (hb.below hb1)
  obtain ⟨y0, y1, y2, hz⟩ := hb.block
  have Z1 := Aside0.mk (blk_below hz hb1)
  have D1 := Aside0.mk (blk_new w1 (.cells #[.bool false, .slice none 0 0, .slice none 0 0] 43 (0, 0)))
  have B1 := Aside0.mk (below_then (below_then B0.out B0.out.size hbl) (below_then B0.out B0.out.size hbl).size hb1)
  have G1 := Aside0.mk (below_then B0.out B0.out.size hbl).size
  have GB := Aside0.mk (Nat.le_trans B0.out.size hgb)
  have NA := Aside0.mk (And.intro hab (And.intro ha.lt hb.lt))
  clear ha hb hab hga hgb hbl hb1 hz
  go_wp2_with fail
  refine (addQ.calls w _ b y0 y1 y2 Z1.out a (aF n d) R1.out b (bF n d) S1.out OK.add B1.out GB.out).mono ?_
  rintro e w2 ⟨rfl, hq, hk, hb⟩
  have nd := noDg_one Z1.out (by decide)
  have S2 := Aside0.mk (show IsQ w2 b (sF n d).1 (sF n d).2 from hq)
  have R2 := Aside0.mk (R1.out.kept hk nd NA.out.1)
  have D2 := Aside0.mk (blk_kept D1.out hk (show w1.heap.size ≠ b by have := NA.out.2.2; omega))
  have B2 := Aside0.mk hb
  clear hq hk hb nd R1 S1 Z1 D1 B1
  go_wp2_with fail
  refine (quoQ.calls w w2 w1.heap.size _ _ _ D2.out a (aF n d) R2.out b (sF n d) S2.out OK.quo B2.out G1.out).mono ?_
  rintro e w3 ⟨rfl, hq, hk, hb⟩
  have Q3 := Aside0.mk (show IsQ w3 w1.heap.size (dF n d).1 (dF n d).2 from hq)
  have B3 := Aside0.mk hb
  clear hq hk hb
  go_wp2
  go_ret
  exact ⟨_, rfl, Q3.out, B3.out⟩
def impl_DeuceChance.f (a0_0 : Int) (a0_1 : Int) : Option (Int × Int × Bool) := (impl_Odds_isOpen.f a0_0 a0_1).bind fun t => if t = true then some ((dF a0_0 a0_1).1, ((dF a0_0 a0_1).2 : Int), true) else some (0, 0, false)
def impl_MeanDeuce.f (a0_0 : Int) (a0_1 : Int) : Option (Int × Int × Bool) := (impl_Odds_isOpen.f a0_0 a0_1).bind fun t => if t = true then some ((mF a0_0 a0_1).1, ((mF a0_0 a0_1).2 : Int), true) else some (0, 0, false)
set_option maxHeartbeats 8000000 in
set_option maxRecDepth 100000 in
theorem impl_DeuceChance.calls (a0_0 : Int) (a0_1 : Int) (r1 : Int) (r2 : Int) (r3 : Bool) (w : World) (h : impl_DeuceChance.f a0_0 a0_1 = some (r1, r2, r3)) :
    Calls Try.prog 10 #[.agg #[.int .i64 a0_0, .int .i64 a0_1]] w fun e w' => e = .returned (.tuple #[.int .i64 r1, .int .i64 r2, .bool r3]) ∧ Below w.heap.size w w' := by
  have hu26 := Try.underlying26
  have hv := isOpen_val a0_0 a0_1
  unfold impl_DeuceChance.f at h
  rw [hv] at h
  have B0 := Aside0.mk (below_alloc (Below.refl _ w) (.cells #[.int .i64 a0_0, .int .i64 a0_1] 26 (0, 0)))
  have C0 := Aside0.mk (show (w.alloc (.cells #[.int .i64 a0_0, .int .i64 a0_1] 26 (0, 0))).heap[w.heap.size]? = _ from blk_new w _)
  have HV := Aside0.mk hv
  clear hv
  by_cases ho : 0 < a0_0 ∧ a0_0 < a0_1 ∧ a0_1 ≤ 10
  · rw [decide_eq_true ho, Option.bind_some, if_pos rfl] at h
    simp only [Option.some.injEq, Prod.mk.injEq] at h
    obtain ⟨rfl, rfl, rfl⟩ := h
    have OK := Aside0.mk (okR_to (OkF.of _ _ (okF_all a0_0 a0_1 ho.1 ho.2.1 ho.2.2)).rd)
    have HO := Aside0.mk ho
    have HV2 := Aside0.mk (HV.out.trans (by rw [decide_eq_true ho]))
    clear ho
    go_enter Try.func10, Try.ntmps10
    go_wp2_with fail
    refine (impl_Odds_isOpen.calls a0_0 a0_1 true _ HV2.out).mono ?_
    rintro e w1 ⟨rfl, hb⟩
    have c1 : w1.heap[w.heap.size]? = some (.cells #[.int .i64 a0_0, .int .i64 a0_1] 26 (0, 0)) := blk_below C0.out hb
    have c10 : w1.cell? ⟨w.heap.size, 0, none⟩ = some (.int .i64 a0_0) := (blk_cell c1 0).trans rfl
    have c11 : w1.cell? ⟨w.heap.size, 1, none⟩ = some (.int .i64 a0_1) := (blk_cell c1 1).trans rfl
    have B1 := Aside0.mk (below_then B0.out B0.out.size hb)
    clear hb c1
    go_wp2_with fail
    refine (deuce.calls w1 a0_0 a0_1 HO.out.1 HO.out.2.1 HO.out.2.2).mono ?_
    rintro e w2 ⟨b, rfl, hq, hb⟩
    have Q2 := Aside0.mk hq
    have B2 := Aside0.mk (below_then B1.out B1.out.size hb)
    clear hq hb c10 c11
    go_wp2_with fail
    refine (parts.calls w2 b _ _ Q2.out OK.out.1 OK.out.2.1 OK.out.2.2.1 OK.out.2.2.2).mono ?_
    rintro e w3 ⟨rfl, hb⟩
    have B3 := Aside0.mk (below_then B2.out B2.out.size hb)
    clear hb
    go_wp2
    go_ret3
    exact ⟨rfl, B3.out⟩
  · rw [decide_eq_false ho, Option.bind_some, if_neg (by decide)] at h
    simp only [Option.some.injEq, Prod.mk.injEq] at h
    obtain ⟨rfl, rfl, rfl⟩ := h
    have HV2 := Aside0.mk (HV.out.trans (by rw [decide_eq_false ho]))
    clear ho
    go_enter Try.func10, Try.ntmps10
    go_wp2_with fail
    refine (impl_Odds_isOpen.calls a0_0 a0_1 false _ HV2.out).mono ?_
    rintro e w1 ⟨rfl, hb⟩
    have B1 := Aside0.mk (below_then B0.out B0.out.size hb)
    clear hb
    go_wp2
    go_ret3
    exact ⟨rfl, B1.out⟩
set_option maxHeartbeats 8000000 in
set_option maxRecDepth 100000 in
theorem impl_MeanDeuce.calls (a0_0 : Int) (a0_1 : Int) (r1 : Int) (r2 : Int) (r3 : Bool) (w : World) (h : impl_MeanDeuce.f a0_0 a0_1 = some (r1, r2, r3)) :
    Calls Try.prog 8 #[.agg #[.int .i64 a0_0, .int .i64 a0_1]] w fun e w' => e = .returned (.tuple #[.int .i64 r1, .int .i64 r2, .bool r3]) ∧ Below w.heap.size w w' := by
  have hu26 := Try.underlying26
  have hv := isOpen_val a0_0 a0_1
  unfold impl_MeanDeuce.f at h
  rw [hv] at h
  have B0 := Aside0.mk (below_alloc (Below.refl _ w) (.cells #[.int .i64 a0_0, .int .i64 a0_1] 26 (0, 0)))
  have C0 := Aside0.mk (show (w.alloc (.cells #[.int .i64 a0_0, .int .i64 a0_1] 26 (0, 0))).heap[w.heap.size]? = _ from blk_new w _)
  have HV := Aside0.mk hv
  clear hv
  by_cases ho : 0 < a0_0 ∧ a0_0 < a0_1 ∧ a0_1 ≤ 10
  · rw [decide_eq_true ho, Option.bind_some, if_pos rfl] at h
    simp only [Option.some.injEq, Prod.mk.injEq] at h
    obtain ⟨rfl, rfl, rfl⟩ := h
    have OK := Aside0.mk (okR_to (OkF.of _ _ (okF_all a0_0 a0_1 ho.1 ho.2.1 ho.2.2)).rm)
    have HO := Aside0.mk ho
    have HV2 := Aside0.mk (HV.out.trans (by rw [decide_eq_true ho]))
    clear ho
    go_enter Try.func8, Try.ntmps8
    go_wp2_with fail
    refine (impl_Odds_isOpen.calls a0_0 a0_1 true _ HV2.out).mono ?_
    rintro e w1 ⟨rfl, hb⟩
    have c1 : w1.heap[w.heap.size]? = some (.cells #[.int .i64 a0_0, .int .i64 a0_1] 26 (0, 0)) := blk_below C0.out hb
    have c10 : w1.cell? ⟨w.heap.size, 0, none⟩ = some (.int .i64 a0_0) := (blk_cell c1 0).trans rfl
    have c11 : w1.cell? ⟨w.heap.size, 1, none⟩ = some (.int .i64 a0_1) := (blk_cell c1 1).trans rfl
    have B1 := Aside0.mk (below_then B0.out B0.out.size hb)
    clear hb c1
    have OF := Aside0.mk (OkF.of _ _ (okF_all a0_0 a0_1 HO.out.1 HO.out.2.1 HO.out.2.2))
    go_wp2_with fail
    refine (twice.calls w1 a0_0 a0_1 HO.out.1 HO.out.2.1 HO.out.2.2).mono ?_
    rintro e w2 ⟨a, b, rfl, ha, hbq, hab, hga, hgb, hbl⟩
    have hb1 := below_alloc (Below.refl _ w2) (.cells #[.bool false, .slice none 0 0, .slice none 0 0] 43 (0, 0))
    have R1 := Aside0.mk (ha.below hb1)
    have S1 := Aside0.mk (hbq.below hb1)
    obtain ⟨y0, y1, y2, hz⟩ := hbq.block
    have Z1 := Aside0.mk (blk_below hz hb1)
    have D1 := Aside0.mk (blk_new w2 (.cells #[.bool false, .slice none 0 0, .slice none 0 0] 43 (0, 0)))
    have BB := below_then B1.out B1.out.size hbl
    have B2 := Aside0.mk (below_then BB BB.size hb1)
    have G1 := Aside0.mk BB.size
    have GB := Aside0.mk (Nat.le_trans B1.out.size hgb)
    have NA := Aside0.mk (And.intro hab (And.intro ha.lt hbq.lt))
    clear ha hbq hab hga hgb hbl hb1 hz BB c10 c11
    go_wp2_with fail
    refine (newQ.calls _ 2 1 (by decide) (by decide) (by decide) (by decide)).mono ?_
    rintro e w3 ⟨t, rfl, hq, hg, hb⟩
    have T3 := Aside0.mk hq
    have R3 := Aside0.mk (R1.out.below hb)
    have S3 := Aside0.mk (S1.out.below hb)
    have Z3 := Aside0.mk (blk_below Z1.out hb)
    have D3 := Aside0.mk (blk_below D1.out hb)
    have B3 := Aside0.mk (below_then B2.out B2.out.size hb)
    have NT := Aside0.mk (show t ≠ b by have := NA.out.2.2; rw [size41] at hg; omega)
    clear hq hg hb R1 S1 Z1 D1 B2
    go_wp2_with fail
    refine (addQ.calls w _ b y0 y1 y2 Z3.out a (aF a0_0 a0_1) R3.out b (bF a0_0 a0_1) S3.out OF.out.add B3.out GB.out).mono ?_
    rintro e w4 ⟨rfl, hq, hk, hb⟩
    have nd := noDg_one Z3.out (by decide)
    have S4 := Aside0.mk (show IsQ w4 b (sF a0_0 a0_1).1 (sF a0_0 a0_1).2 from hq)
    have T4 := Aside0.mk (T3.out.kept hk nd NT.out)
    have D4 := Aside0.mk (blk_kept D3.out hk (show w2.heap.size ≠ b by have := NA.out.2.2; omega))
    have B4 := Aside0.mk hb
    clear hq hk hb nd R3 S3 Z3 D3 B3 T3
    go_wp2_with fail
    refine (quoQ.calls w w4 w2.heap.size _ _ _ D4.out t (rN 2 1) T4.out b (sF a0_0 a0_1) S4.out OF.out.quo2 B4.out G1.out).mono ?_
    rintro e w5 ⟨rfl, hq, hk, hb⟩
    have Q2 := Aside0.mk (show IsQ w5 w2.heap.size (mF a0_0 a0_1).1 (mF a0_0 a0_1).2 from hq)
    have B5 := Aside0.mk hb
    clear hq hk hb
    go_wp2_with fail
    refine (parts.calls w5 _ _ _ Q2.out OK.out.1 OK.out.2.1 OK.out.2.2.1 OK.out.2.2.2).mono ?_
    rintro e w6 ⟨rfl, hb⟩
    have B6 := Aside0.mk (below_then B5.out B5.out.size hb)
    clear hb
    go_wp2
    go_ret3
    exact ⟨rfl, B6.out⟩
  · rw [decide_eq_false ho, Option.bind_some, if_neg (by decide)] at h
    simp only [Option.some.injEq, Prod.mk.injEq] at h
    obtain ⟨rfl, rfl, rfl⟩ := h
    have HV2 := Aside0.mk (HV.out.trans (by rw [decide_eq_false ho]))
    clear ho
    go_enter Try.func8, Try.ntmps8
    go_wp2_with fail
    refine (impl_Odds_isOpen.calls a0_0 a0_1 false _ HV2.out).mono ?_
    rintro e w1 ⟨rfl, hb⟩
    have B1 := Aside0.mk (below_then B0.out B0.out.size hb)
    clear hb
    go_wp2
    go_ret3
    exact ⟨rfl, B1.out⟩
end Go.Proofs.Ytmkjkcfmjfeheaa.QFnExactMeanDeuce
