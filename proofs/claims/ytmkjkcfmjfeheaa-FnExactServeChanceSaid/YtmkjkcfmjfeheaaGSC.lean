/- impl.ServeChance, walked, in the printed contracts' form. -/
import Derived.Test.YtmkjkcfmjfeheaaGFrom
import Derived.Test.YtmkjkcfmjfeheaaGDivR
import Derived.Laws.EntriesVeiled
namespace Go.Proofs.Ytmkjkcfmjfeheaa.QFnExactMeanDeuce
open Go.RowKit Go.Proofs.YtmkjkcfmjfeheaaW.PrintWords Go.Proofs.YtmkjkcfmjfeheaaW.PrintLast Go.Proofs.YtmkjkcfmjfeheaaW.PrintMore
set_option linter.unusedVariables false
set_option linter.unusedSimpArgs false
def okOdds (a b : Int) : Prop := 1 ≤ b ∧ b ≤ 10 ∧ 0 ≤ a ∧ a ≤ b
instance (a b : Int) : Decidable (okOdds a b) := by unfold okOdds; infer_instance
theorem areOdds_val (a b : Int) : impl_AreOdds.f a b = some (decide (okOdds a b)) := by
  unfold impl_AreOdds.f impl_within.f
  by_cases h1 : 1 ≤ b
  · rw [if_pos h1]
    by_cases h2 : b ≤ 10
    · rw [decide_eq_true h2]
      by_cases h3 : 0 ≤ a
      · rw [if_pos h3]
        by_cases h4 : a ≤ b
        · rw [decide_eq_true h4, decide_eq_true (show okOdds a b from ⟨h1, h2, h3, h4⟩)]; rfl
        · rw [decide_eq_false h4, decide_eq_false (show ¬ okOdds a b from fun h => h4 h.2.2.2)]; rfl
      · rw [if_neg h3, decide_eq_false (show ¬ okOdds a b from fun h => h3 h.2.2.1)]; rfl
    · rw [decide_eq_false h2, decide_eq_false (show ¬ okOdds a b from fun h => h2 h.2.1)]; rfl
  · rw [if_neg h1, decide_eq_false (show ¬ okOdds a b from fun h => h1 h.1)]; rfl
theorem within_val (a : Int) : impl_within.f a 1 4 = some (decide (1 ≤ a ∧ a ≤ 4)) := by
  unfold impl_within.f
  by_cases h1 : 1 ≤ a
  · rw [if_pos h1]
    by_cases h2 : a ≤ 4
    · rw [decide_eq_true h2, decide_eq_true ⟨h1, h2⟩]
    · rw [decide_eq_false h2, decide_eq_false (fun h => h2 h.2)]
  · rw [if_neg h1, decide_eq_false (fun h => h1 h.1)]
def servV (a0_0 a0_1 a1_0 a1_1 a2 : Int) : Q2 := fromV (svN a0_0 a1_0) (svN a0_1 a1_1) a2.toNat (2 * a2.toNat - 1) 0 0
def impl_ServeChance.f (a0_0 : Int) (a0_1 : Int) (a1_0 : Int) (a1_1 : Int) (a2 : Int) : Option (Int × Int × Bool) :=
  if okOdds a0_0 a0_1 ∧ okOdds a1_0 a1_1 ∧ 1 ≤ a2 ∧ a2 ≤ 4 then some ((servV a0_0 a0_1 a1_0 a1_1 a2).1, ((servV a0_0 a0_1 a1_0 a1_1 a2).2 : Int), true) else some (0, 0, false)
theorem srv_of {a b c d : Int} (h : okOdds a b) (h' : okOdds c d) : Srv (svN a c) (svN b d) := by
  refine ⟨fun t => ?_, fun t => ?_, fun t => ?_, fun t => ?_⟩ <;> unfold svN <;> split <;> first | (have := h; have := h'; unfold okOdds at *; omega)
/-- a fraction that mix has made has digits below -/
theorem fromV_den {sn sd : Nat → Int} (h : Srv sn sd) (nn L a b : Nat) (ha : a < nn) (hb : b < nn) (hs : a + b + L + 1 = 2 * nn) : (fromV sn sd nn L a b).2 ≠ 0 := by
  cases L with
  | zero => omega
  | succ L =>
    unfold fromV
    rw [if_neg (by omega), if_neg (by omega)]
    exact lowD_pos (den_mul_ne _ _)
theorem servV_bound {a b c d e : Int} (h : okOdds a b) (h' : okOdds c d) (h1 : 1 ≤ e) (h2 : e ≤ 4) : 0 ≤ (servV a b c d e).1 ∧ (servV a b c d e).1 < 4294967296 ∧ (servV a b c d e).2 ≠ 0 ∧ (servV a b c d e).2 < 4294967296 := by
  have hS := srv_of h h'
  have hr := fromRep hS e.toNat (2 * e.toNat - 1) 0 0 (by omega) (by omega) (by omega)
  have hd := fromV_den hS e.toNat (2 * e.toNat - 1) 0 0 (by omega) (by omega) (by omega)
  have h3 := prodD_le hS (2 * e.toNat - 1) (0 + 0)
  have h4 : (10 : Int) ^ (2 * e.toNat - 1) ≤ 10 ^ 7 := by
    have h5 : (10 : Nat) ^ (2 * e.toNat - 1) ≤ 10 ^ 7 := Nat.pow_le_pow_right (by decide) (by omega)
    have h6 : ((10 ^ (2 * e.toNat - 1) : Nat) : Int) ≤ ((10 ^ 7 : Nat) : Int) := Int.ofNat_le.2 h5
    simpa using h6
  have h7 : (10 : Int) ^ 7 = 10000000 := by decide
  have h8 := hr.den_le
  have h9 := hr.num_le
  have h10 := hr.n0
  have e1 : den (fromV (svN a c) (svN b d) e.toNat (2 * e.toNat - 1) 0 0).2 = (fromV (svN a c) (svN b d) e.toNat (2 * e.toNat - 1) 0 0).2 := by unfold den; rw [if_neg hd]
  unfold servV
  refine ⟨h10, by omega, hd, by omega⟩
set_option maxHeartbeats 8000000 in
set_option maxRecDepth 100000 in
theorem impl_ServeChance.calls (a0_0 : Int) (a0_1 : Int) (a1_0 : Int) (a1_1 : Int) (a2 : Int) (r1 : Int) (r2 : Int) (r3 : Bool) (w : World) (h : impl_ServeChance.f a0_0 a0_1 a1_0 a1_1 a2 = some (r1, r2, r3)) :
    Calls Try.prog 12 #[.agg #[.int .i64 a0_0, .int .i64 a0_1], .agg #[.int .i64 a1_0, .int .i64 a1_1], .int .i64 a2] w fun e w' => e = .returned (.tuple #[.int .i64 r1, .int .i64 r2, .bool r3]) ∧ Below w.heap.size w w' := by
  have hu26 := Try.underlying26
  have V0 := Aside0.mk (areOdds_val a0_0 a0_1)
  have V1 := Aside0.mk (areOdds_val a1_0 a1_1)
  have V2 := Aside0.mk (within_val a2)
  -- the three boxes
  have n1 : (w.alloc (.cells #[.int .i64 a0_0, .int .i64 a0_1] 26 (0, 0))).heap.size = w.heap.size + 1 := World.size_alloc _ _
  have n2 : ((w.alloc (.cells #[.int .i64 a0_0, .int .i64 a0_1] 26 (0, 0))).alloc (.cells #[.int .i64 a1_0, .int .i64 a1_1] 26 (0, 0))).heap.size = w.heap.size + 2 := by rw [World.size_alloc, n1]
  obtain ⟨W, hW⟩ : ∃ W, W = ((w.alloc (.cells #[.int .i64 a0_0, .int .i64 a0_1] 26 (0, 0))).alloc (.cells #[.int .i64 a1_0, .int .i64 a1_1] 26 (0, 0))).alloc (.cells #[.int .i64 a2] 3 (0, 0)) := ⟨_, rfl⟩
  have k0 : W.heap[w.heap.size]? = some (.cells #[.int .i64 a0_0, .int .i64 a0_1] 26 (0, 0)) := by
    rw [hW]; exact blk_below (blk_below (blk_new w _) (below_alloc (Below.refl _ _) _)) (below_alloc (Below.refl _ _) _)
  have k1 : W.heap[w.heap.size + 1]? = some (.cells #[.int .i64 a1_0, .int .i64 a1_1] 26 (0, 0)) := by
    rw [hW]; have h1 := blk_new (w.alloc (.cells #[.int .i64 a0_0, .int .i64 a0_1] 26 (0, 0))) (.cells #[.int .i64 a1_0, .int .i64 a1_1] 26 (0, 0)); rw [n1] at h1; exact blk_below h1 (below_alloc (Below.refl _ _) _)
  have k2 : W.heap[w.heap.size + 1 + 1]? = some (.cells #[.int .i64 a2] 3 (0, 0)) := by
    rw [hW, show w.heap.size + 1 + 1 = w.heap.size + 2 by omega, ← n2]; exact blk_new _ _
  have bW : Below w.heap.size w W := by rw [hW]; exact below_alloc (below_alloc (below_alloc (Below.refl _ w) _) _) _
  have sW : W.heap.size = w.heap.size + 3 := by rw [hW, World.size_alloc, n2]
  have c00 : W.cell? ⟨w.heap.size, 0, none⟩ = some (.int .i64 a0_0) := (blk_cell k0 0).trans rfl
  have c01 : W.cell? ⟨w.heap.size, 1, none⟩ = some (.int .i64 a0_1) := (blk_cell k0 1).trans rfl
  have K := Aside0.mk (And.intro k0 (And.intro k1 k2))
  have BW := Aside0.mk bW
  have HW := Aside0.mk hW
  clear k0 k1 k2 bW hW n1 n2 sW c00 c01
  unfold impl_ServeChance.f at h
  have H := Aside0.mk h
  clear h
  by_cases g0 : okOdds a0_0 a0_1
  · have v0 := Aside0.mk (V0.out.trans (by rw [decide_eq_true g0] : _ = some true))
    go_enter Try.func12, Try.ntmps12
    go_wp2_with fail
    rw [← HW.out]
    refine (impl_AreOdds.calls a0_0 a0_1 true W v0.out).mono ?_
    rintro e w1 ⟨rfl, hb⟩
    have E1 := Aside0.mk (show w1.heap[w.heap.size]? = _ ∧ w1.heap[w.heap.size + 1]? = _ ∧ w1.heap[w.heap.size + 1 + 1]? = _ from ⟨blk_below K.out.1 hb, blk_below K.out.2.1 hb, blk_below K.out.2.2 hb⟩)
    have B1 := Aside0.mk (below_then BW.out BW.out.size hb)
    have c10 : w1.cell? ⟨w.heap.size + 1, 0, none⟩ = some (.int .i64 a1_0) := (blk_cell E1.out.2.1 0).trans rfl
    have c11 : w1.cell? ⟨w.heap.size + 1, 1, none⟩ = some (.int .i64 a1_1) := (blk_cell E1.out.2.1 1).trans rfl
    clear hb
    by_cases g1 : okOdds a1_0 a1_1
    · have v1 := Aside0.mk (V1.out.trans (by rw [decide_eq_true g1] : _ = some true))
      go_wp2_with fail
      refine (impl_AreOdds.calls a1_0 a1_1 true w1 v1.out).mono ?_
      rintro e w2 ⟨rfl, hb⟩
      have E2 := Aside0.mk (show w2.heap[w.heap.size]? = _ ∧ w2.heap[w.heap.size + 1]? = _ ∧ w2.heap[w.heap.size + 1 + 1]? = _ from ⟨blk_below E1.out.1 hb, blk_below E1.out.2.1 hb, blk_below E1.out.2.2 hb⟩)
      have B2 := Aside0.mk (below_then B1.out B1.out.size hb)
      have c2 : w2.cell? ⟨w.heap.size + 1 + 1, 0, none⟩ = some (.int .i64 a2) := (blk_cell E2.out.2.2 0).trans rfl
      clear hb c10 c11
      by_cases g2 : 1 ≤ a2 ∧ a2 ≤ 4
      · have v2 := Aside0.mk (V2.out.trans (by rw [decide_eq_true g2] : _ = some true))
        have H' := H.out
        clear H
        rw [if_pos ⟨g0, g1, g2⟩] at H'
        simp only [Option.some.injEq, Prod.mk.injEq] at H'
        obtain ⟨rfl, rfl, rfl⟩ := H'
        go_wp2_with fail
        refine (impl_within.calls a2 1 4 true w2 v2.out).mono ?_
        rintro e w3 hw3
        have hb : Below w2.heap.size w2 w3 := by first | exact hw3.2 | exact hw3.2.below
        obtain ⟨rfl, -⟩ := hw3
        have E3 := Aside0.mk (show w3.heap[w.heap.size]? = _ ∧ w3.heap[w.heap.size + 1]? = _ ∧ w3.heap[w.heap.size + 1 + 1]? = _ from ⟨blk_below E2.out.1 hb, blk_below E2.out.2.1 hb, blk_below E2.out.2.2 hb⟩)
        have B3 := Aside0.mk (below_then B2.out B2.out.size hb)
        have hto : a2.toNat ≤ 4 := by omega
        have hSv := srv_of g0 g1
        have hbd := servV_bound g0 g1 g2.1 g2.2
        have ea : ((a2.toNat : Nat) : Int) = a2 := by omega
        have hsum : 0 + 0 + (2 * a2.toNat - 1) + 1 = 2 * a2.toNat := by omega
        have HT := Aside0.mk (And.intro hto (And.intro ea hsum))
        have HSv := Aside0.mk hSv
        have HBD := Aside0.mk hbd
        clear hb c2 g0 g1 g2 hto hSv hbd ea hsum
        have hbA := below_alloc (Below.refl _ w3) (.cells #[.func (.func 28) #[] #[.pointer (some ⟨w.heap.size + 1 + 1, 0, none⟩), .pointer (some ⟨w.heap.size, 0, none⟩), .pointer (some ⟨w.heap.size + 1, 0, none⟩), .pointer (some ⟨w3.heap.size, 0, none⟩)]] 50 (0, 0))
        have HEnv : EnvF (w.heap.size + 1 + 1) w.heap.size (w.heap.size + 1) w3.heap.size ((a2.toNat : Nat) : Int) a0_0 a0_1 a1_0 a1_1 (w3.alloc (.cells #[.func (.func 28) #[] #[.pointer (some ⟨w.heap.size + 1 + 1, 0, none⟩), .pointer (some ⟨w.heap.size, 0, none⟩), .pointer (some ⟨w.heap.size + 1, 0, none⟩), .pointer (some ⟨w3.heap.size, 0, none⟩)]] 50 (0, 0))) := by
          rw [HT.out.2.1]
          exact ⟨blk_below E3.out.2.2 hbA, blk_below E3.out.1 hbA, blk_below E3.out.2.1 hbA, blk_new w3 _⟩
        have hfrom := from.calls div22.calls (w.heap.size + 1 + 1) w.heap.size (w.heap.size + 1) w3.heap.size a2.toNat a0_0 a0_1 a1_0 a1_1 HSv.out HT.out.1 (2 * a2.toNat - 1) 0 0 _ HEnv (Nat.zero_le _) (Nat.zero_le _) HT.out.2.2
        rw [Int.natCast_zero] at hfrom
        have HFR := Aside0.mk hfrom
        have B4 := Aside0.mk (below_then B3.out B3.out.size hbA)
        clear hbA HEnv hfrom
        go_wp2_with fail
        refine HFR.out.mono ?_
        rintro e w4 ⟨r, rfl, hq, hg, hb⟩
        have Q4 := Aside0.mk (show IsQ w4 r (servV a0_0 a0_1 a1_0 a1_1 a2).1 (servV a0_0 a0_1 a1_0 a1_1 a2).2 from hq)
        have B5 := Aside0.mk (below_then B4.out B4.out.size hb)
        clear hq hg hb HFR
        go_wp2_with fail
        refine (parts.calls w4 r _ _ Q4.out HBD.out.1 HBD.out.2.1 HBD.out.2.2.1 HBD.out.2.2.2).mono ?_
        rintro e w5 ⟨rfl, hb⟩
        have B6 := Aside0.mk (below_then B5.out B5.out.size hb)
        clear hb
        go_wp2
        go_ret3
        exact ⟨rfl, B6.out⟩
      · have v2 := Aside0.mk (V2.out.trans (by rw [decide_eq_false g2] : _ = some false))
        go_wp2_with fail
        refine (impl_within.calls a2 1 4 false w2 v2.out).mono ?_
        rintro e w3 hw3
        have hb : Below w2.heap.size w2 w3 := by first | exact hw3.2 | exact hw3.2.below
        obtain ⟨rfl, -⟩ := hw3
        have B3 := Aside0.mk (below_then B2.out B2.out.size hb)
        clear hb c2
        have H' := H.out
        clear H
        rw [if_neg (fun h => g2 h.2.2)] at H'
        simp only [Option.some.injEq, Prod.mk.injEq] at H'
        obtain ⟨rfl, rfl, rfl⟩ := H'
        go_wp2
        go_ret3
        exact ⟨rfl, B3.out⟩
    · have v1 := Aside0.mk (V1.out.trans (by rw [decide_eq_false g1] : _ = some false))
      go_wp2_with fail
      refine (impl_AreOdds.calls a1_0 a1_1 false w1 v1.out).mono ?_
      rintro e w2 ⟨rfl, hb⟩
      have B2 := Aside0.mk (below_then B1.out B1.out.size hb)
      clear hb c10 c11
      have H' := H.out
      clear H
      rw [if_neg (fun h => g1 h.2.1)] at H'
      simp only [Option.some.injEq, Prod.mk.injEq] at H'
      obtain ⟨rfl, rfl, rfl⟩ := H'
      go_wp2
      go_ret3
      exact ⟨rfl, B2.out⟩
  · have v0 := Aside0.mk (V0.out.trans (by rw [decide_eq_false g0] : _ = some false))
    go_enter Try.func12, Try.ntmps12
    go_wp2_with fail
    rw [← HW.out]
    refine (impl_AreOdds.calls a0_0 a0_1 false W v0.out).mono ?_
    rintro e w1 ⟨rfl, hb⟩
    have B1 := Aside0.mk (below_then BW.out BW.out.size hb)
    clear hb
    have H' := H.out
    clear H
    rw [if_neg (fun h => g0 h.1)] at H'
    simp only [Option.some.injEq, Prod.mk.injEq] at H'
    obtain ⟨rfl, rfl, rfl⟩ := H'
    go_wp2
    go_ret3
    exact ⟨rfl, B1.out⟩
end Go.Proofs.Ytmkjkcfmjfeheaa.QFnExactMeanDeuce
