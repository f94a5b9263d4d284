/- impl's exactInt.Mul and exactInt.Add, walked, for numbers of few digits. -/
import Derived.Test.YtmkjkcfmjfeheaaGNew
import Derived.Test.YtmkjkcfmjfeheaaGPur
namespace Go.Proofs.Ytmkjkcfmjfeheaa.QFnExactMeanDeuce
open Go.RowKit Go.Proofs.YtmkjkcfmjfeheaaW.PrintWords Go.Proofs.YtmkjkcfmjfeheaaW.PrintLast Go.Proofs.YtmkjkcfmjfeheaaW.PrintMore
set_option linter.unusedVariables false
set_option linter.unusedSimpArgs false
theorem Dg.form {w : World} {v : Value} {ds : List Int} (h : Dg w v ds) : ∃ A c, v = .slice A ds.length c ∧ ds.length ≤ c ∧ Kd.C (Kd.int .u32) w A ds.length ds := by
  obtain ⟨A, c, h1, h2, h3, -⟩ := h
  exact ⟨A, c, h1, h2, h3⟩
theorem cells_below {w w' : World} (hb : Below w.heap.size w w') {a : Addr} {v : Value} (h : w.cell? a = some v) : w'.cell? a = some v := pw_cell_below hb h
theorem IsI.cells {w : World} {b : Nat} {z : Int} (h : IsI w b z) : ∃ v, w.cell? ⟨b, 0, none⟩ = some (.bool (decide (z < 0))) ∧ w.cell? ⟨b, 1, none⟩ = some v ∧ Dg w v (dig z.natAbs) := by
  obtain ⟨v, h1, h2⟩ := h
  exact ⟨v, (blk_cell h1 0).trans rfl, (blk_cell h1 1).trans rfl, h2⟩
theorem mul_sign (z1 z2 : Int) : z1 * z2 = if (decide (z1 < 0) != decide (z2 < 0)) = true then -((z1.natAbs * z2.natAbs : Nat) : Int) else ((z1.natAbs * z2.natAbs : Nat) : Int) := by
  rw [Int.natCast_mul]
  by_cases h1 : z1 < 0
  · have e1 : (z1.natAbs : Int) = -z1 := by omega
    by_cases h2 : z2 < 0
    · have e2 : (z2.natAbs : Int) = -z2 := by omega
      rw [decide_eq_true h1, decide_eq_true h2, e1, e2, Int.neg_mul_neg]
      rfl
    · have e2 : (z2.natAbs : Int) = z2 := by omega
      rw [decide_eq_true h1, decide_eq_false h2, e1, e2, Int.neg_mul, Int.neg_neg]
      rfl
  · have e1 : (z1.natAbs : Int) = z1 := by omega
    by_cases h2 : z2 < 0
    · have e2 : (z2.natAbs : Int) = -z2 := by omega
      rw [decide_eq_false h1, decide_eq_true h2, e1, e2, Int.mul_neg, Int.neg_neg]
      rfl
    · have e2 : (z2.natAbs : Int) = z2 := by omega
      rw [decide_eq_false h1, decide_eq_false h2, e1, e2]
      rfl
set_option maxHeartbeats 8000000 in
set_option maxRecDepth 100000 in
theorem mul.calls (w0 w : World) (b : Nat) (x y : Value) (hb : w.heap[b]? = some (.cells #[x, y] 41 (0, 0))) (a1 : Nat) (z1 : Int) (hi1 : IsI w a1 z1) (a2 : Nat) (z2 : Int) (hi2 : IsI w a2 z2)
    (hs1 : z1.natAbs < 4294967296) (hs2 : z2.natAbs < 4294967296) (hn1 : a1 ≠ b) (hn2 : a2 ≠ b) (hB : Below w0.heap.size w0 w) (hge : w0.heap.size ≤ b) :
    Calls Try.prog 37 #[.pointer (some ⟨b, 0, none⟩), .pointer (some ⟨a1, 0, none⟩), .pointer (some ⟨a2, 0, none⟩)] w fun e w' => e = .returned (.pointer (some ⟨b, 0, none⟩)) ∧ IsI w' b (z1 * z2) ∧ Kept w w' (fun k => k = b) ∧ Below w0.heap.size w0 w' := by
  obtain ⟨v1, c10, c11, hd1⟩ := hi1.cells
  obtain ⟨v2, c20, c21, hd2⟩ := hi2.cells
  obtain ⟨r, hr, hvr, hir⟩ := mulD z1.natAbs z2.natAbs hs1 hs2
  obtain ⟨A1, C1, rfl, hC1, hR1⟩ := hd1.form
  obtain ⟨A2, C2, rfl, hC2, hR2⟩ := hd2.form
  obtain ⟨l1, hl1⟩ : ∃ l, l = decide (z1 < 0) := ⟨_, rfl⟩
  obtain ⟨l2, hl2⟩ : ∃ l, l = decide (z2 < 0) := ⟨_, rfl⟩
  rw [← hl1] at c10
  rw [← hl2] at c20
  have HB := Aside0.mk hB
  have HBK := Aside0.mk hb
  have HR1 := Aside0.mk hR1
  have HR2 := Aside0.mk hR2
  have HC1 := Aside0.mk hC1
  have HC2 := Aside0.mk hC2
  have HR := Aside0.mk hr
  have HVR := Aside0.mk hvr
  have HIR := Aside0.mk hir
  have HL1 := Aside0.mk hl1
  have HL2 := Aside0.mk hl2
  clear hB hb hR1 hR2 hC1 hC2 hr hvr hir hl1 hl2 hd1 hd2 hi1 hi2 hs1 hs2
  go_enter Try.func37, Try.ntmps37
  go_wp2
  go_region_held3 (fun w' => w'.cell? ⟨a1, 0, none⟩ = some (.bool l1) ∧ w'.cell? ⟨a1, 1, none⟩ = some (.slice A1 (dig z1.natAbs).length C1) ∧ w'.cell? ⟨a2, 0, none⟩ = some (.bool l2) ∧ w'.cell? ⟨a2, 1, none⟩ = some (.slice A2 (dig z2.natAbs).length C2)) (first | exact ⟨c10, c11, c20, c21⟩ | exact ⟨k10, k11, k20, k21⟩ | exact ⟨q10, q11, q20, q21⟩) (first
    | (go_at_call 44
       refine (impl_mulDigits.calls 10 A1 C1 _ A2 C2 _ r w.drew (Kd.C_drew HR1.out) HC1.out (Kd.C_drew HR2.out) HC2.out HR.out).mono ?_
       rintro e w9 ⟨v9, rfl, hR9, hB9⟩
       have HD9 := Aside0.mk (Dg.of_R hR9)
       have HB9 := Aside0.mk (show Below w.heap.size w w9 from below_then (below_drew1 (Below.refl _ w)) (Nat.le_refl _) hB9)
       have k10 := cells_below HB9.out c10
       have k11 := cells_below HB9.out c11
       have k20 := cells_below HB9.out c20
       have k21 := cells_below HB9.out c21
       have BK9 := Aside0.mk (blk_below HBK.out HB9.out)
       clear hR9 hB9 c10 c11 c20 c21 HR1 HR2)
    | (go_at_call 42
       refine (putI.calls w0 w9 b x y BK9.out (l1 != l2) v9 r HD9.out HIR.out (z1 * z2) (by rw [HL1.out, HL2.out, HVR.out]; exact mul_sign z1 z2) (below_then HB.out HB.out.size HB9.out) hge).mono ?_
       rintro e w8 ⟨rfl, hI8, hK8, hB8⟩
       have HI8 := Aside0.mk hI8.isI
       have HK8 := Aside0.mk (show Kept w w8 (fun k => k = b) from (Kept.of_below HB9.out _).then_ hK8 (fun k hk => Or.inl hk))
       have HB8 := Aside0.mk hB8
       have q10 := cell_kept k10 hK8 hn1
       have q11 := cell_kept k11 hK8 hn1
       have q20 := cell_kept k20 hK8 hn2
       have q21 := cell_kept k21 hK8 hn2
       clear hI8 hK8 hB8 k10 k11 k20 k21))
  go_wp2
  go_ret
  exact ⟨rfl, HI8.out, HK8.out, HB8.out⟩
theorem dig_len (n : Nat) : (dig n).length ≤ n := by
  induction n using Nat.strongRecOn with
  | _ n ih =>
    by_cases h : n = 0
    · rw [h, dig_zero]; exact Nat.le_refl _
    · rw [dig_pos n h]
      have := ih (n / 4294967296) (by omega)
      simp only [List.length_cons]
      omega
theorem dig_len2 (n : Nat) (h : n < 18446744073709551616) : (dig n).length ≤ 2 := by
  rcases dig_cases n h with ⟨e, _⟩ | ⟨a, e, _⟩ | ⟨a, b, e, _⟩ <;> rw [e] <;> simp
/-- both of one sign -/
theorem add_same (z1 z2 : Int) (h : decide (z1 < 0) = decide (z2 < 0)) : z1 + z2 = if decide (z1 < 0) = true then -((z1.natAbs : Int) + (z2.natAbs : Int)) else (z1.natAbs : Int) + (z2.natAbs : Int) := by
  by_cases h1 : z1 < 0
  · rw [decide_eq_true h1] at h ⊢
    have h2 := of_decide_eq_true h.symm
    rw [if_pos rfl]; omega
  · rw [decide_eq_false h1] at h ⊢
    have h2 := of_decide_eq_false h.symm
    rw [if_neg (by simp)]; omega
set_option maxHeartbeats 8000000 in
set_option maxRecDepth 100000 in
theorem add.calls (w0 w : World) (b : Nat) (x y : Value) (hb : w.heap[b]? = some (.cells #[x, y] 41 (0, 0))) (a1 : Nat) (z1 : Int) (hi1 : IsI w a1 z1) (a2 : Nat) (z2 : Int) (hi2 : IsI w a2 z2)
    (hs1 : z1.natAbs < 18446744073709551616) (hs2 : z2.natAbs < 18446744073709551616) (hss : decide (z1 < 0) = decide (z2 < 0)) (hn1 : a1 ≠ b) (hn2 : a2 ≠ b) (hB : Below w0.heap.size w0 w) (hge : w0.heap.size ≤ b) :
    Calls Try.prog 39 #[.pointer (some ⟨b, 0, none⟩), .pointer (some ⟨a1, 0, none⟩), .pointer (some ⟨a2, 0, none⟩)] w fun e w' => e = .returned (.pointer (some ⟨b, 0, none⟩)) ∧ IsI w' b (z1 + z2) ∧ Kept w w' (fun k => k = b) ∧ Below w0.heap.size w0 w' := by
  obtain ⟨v1, c10, c11, hd1⟩ := hi1.cells
  obtain ⟨v2, c20, c21, hd2⟩ := hi2.cells
  have hq1 := dig_len2 _ hs1
  have hq2 := dig_len2 _ hs2
  obtain ⟨r, hr, hvr, hir⟩ := addD (dig z1.natAbs) (dig z2.natAbs) (inR_dig _) (inR_dig _) (by omega) (by omega)
  rw [vl_dig, vl_dig] at hvr
  obtain ⟨A1, C1, rfl, hC1, hR1⟩ := hd1.form
  obtain ⟨A2, C2, rfl, hC2, hR2⟩ := hd2.form
  obtain ⟨l1, hl1⟩ : ∃ l, l = decide (z1 < 0) := ⟨_, rfl⟩
  rw [← hss, ← hl1] at c20
  rw [← hl1] at c10
  have HB := Aside0.mk hB
  have HBK := Aside0.mk hb
  have HR1 := Aside0.mk hR1
  have HR2 := Aside0.mk hR2
  have HC1 := Aside0.mk hC1
  have HC2 := Aside0.mk hC2
  have HR := Aside0.mk hr
  have HVR := Aside0.mk hvr
  have HIR := Aside0.mk hir
  have HL1 := Aside0.mk hl1
  have HS := Aside0.mk hss
  have HQ1 := Aside0.mk hq1
  have HQ2 := Aside0.mk hq2
  clear hB hb hR1 hR2 hC1 hC2 hr hvr hir hl1 hd1 hd2 hi1 hi2 hs1 hs2 hss hq1 hq2
  go_enter Try.func39, Try.ntmps39
  go_wp2
  go_region
  have HBd := Aside0.mk (below_drew1 HB.out)
  have HKd := Aside0.mk ((Kept.refl w (fun k => k = b)).drew)
  have HBKd := Aside0.mk (show w.drew.heap[b]? = _ from HBK.out)
  have HR1d := Aside0.mk (Kd.C_drew HR1.out)
  have HR2d := Aside0.mk (Kd.C_drew HR2.out)
  replace c10 : w.drew.cell? ⟨a1, 0, none⟩ = _ := c10
  replace c11 : w.drew.cell? ⟨a1, 1, none⟩ = _ := c11
  replace c20 : w.drew.cell? ⟨a2, 0, none⟩ = _ := c20
  replace c21 : w.drew.cell? ⟨a2, 1, none⟩ = _ := c21
  clear HB HBK HR1 HR2
  generalize w.drew = u at c10 c11 c20 c21 HBd HKd HBKd HR1d HR2d ⊢
  go_wp2
  go_region_held3 (fun w' => w'.cell? ⟨a1, 0, none⟩ = some (.bool l1) ∧ w'.cell? ⟨a1, 1, none⟩ = some (.slice A1 (dig z1.natAbs).length C1) ∧ w'.cell? ⟨a2, 1, none⟩ = some (.slice A2 (dig z2.natAbs).length C2)) (first | exact ⟨c10, c11, c21⟩ | exact ⟨k10, k11, k21⟩ | exact ⟨q10, q11, q21⟩) (first
    | (go_at_call 45
       refine (impl_addDigits.calls 1000 A1 C1 _ A2 C2 _ r u.drew (Kd.C_drew HR1d.out) HC1.out (Kd.C_drew HR2d.out) HC2.out (by have := HQ1.out; omega) (by have := HQ2.out; omega) HR.out).mono ?_
       rintro e w9 ⟨v9, rfl, hR9, hB9⟩
       have HD9 := Aside0.mk (Dg.of_R hR9)
       have HB9 := Aside0.mk (show Below u.heap.size u w9 from below_then (below_drew1 (Below.refl _ u)) (Nat.le_refl _) hB9)
       have k10 := cells_below HB9.out c10
       have k11 := cells_below HB9.out c11
       have k21 := cells_below HB9.out c21
       have BK9 := Aside0.mk (blk_below HBKd.out HB9.out)
       clear hR9 hB9 c10 c11 c20 c21 HR1d HR2d)
    | (go_at_call 42
       refine (putI.calls w0 w9 b x y BK9.out l1 v9 r HD9.out HIR.out (z1 + z2) (by rw [HL1.out, HVR.out]; exact add_same z1 z2 HS.out) (below_then HBd.out HBd.out.size HB9.out) hge).mono ?_
       rintro e w8 ⟨rfl, hI8, hK8, hB8⟩
       have HI8 := Aside0.mk hI8.isI
       have HK8 := Aside0.mk (show Kept u w8 (fun k => k = b) from (Kept.of_below HB9.out _).then_ hK8 (fun k hk => Or.inl hk))
       have HB8 := Aside0.mk hB8
       have q10 := cell_kept k10 hK8 hn1
       have q11 := cell_kept k11 hK8 hn1
       have q21 := cell_kept k21 hK8 hn2
       clear hI8 hK8 hB8 k10 k11 k21))
  go_wp2
  go_ret
  exact ⟨rfl, HI8.out, HKd.out.then_ HK8.out (fun k hk => Or.inl hk), HB8.out⟩
set_option maxHeartbeats 8000000 in
set_option maxRecDepth 100000 in
/-- a - b, a at least b, of one digit each -/
theorem addSub.calls (w0 w : World) (b : Nat) (x y : Value) (hb : w.heap[b]? = some (.cells #[x, y] 41 (0, 0))) (a1 : Nat) (z1 : Int) (hi1 : IsI w a1 z1) (a2 : Nat) (z2 : Int) (hi2 : IsI w a2 (-z2))
    (h0 : 0 < z2) (h1 : z2 ≤ z1) (h2 : z1 < 4294967296) (hn1 : a1 ≠ b) (hn2 : a2 ≠ b) (hB : Below w0.heap.size w0 w) (hge : w0.heap.size ≤ b) :
    Calls Try.prog 39 #[.pointer (some ⟨b, 0, none⟩), .pointer (some ⟨a1, 0, none⟩), .pointer (some ⟨a2, 0, none⟩)] w fun e w' => e = .returned (.pointer (some ⟨b, 0, none⟩)) ∧ IsI w' b (z1 - z2) ∧ Kept w w' (fun k => k = b) ∧ Below w0.heap.size w0 w' := by
  obtain ⟨v1, c10, c11, hd1⟩ := hi1.cells
  obtain ⟨v2, c20, c21, hd2⟩ := hi2.cells
  rw [dig_one z1.natAbs (by omega) (by omega), show ((z1.natAbs : Nat) : Int) = z1 by omega] at hd1
  rw [dig_one (-z2).natAbs (by omega) (by omega), show (((-z2).natAbs : Nat) : Int) = z2 by omega] at hd2
  rw [decide_eq_false (by omega)] at c10
  rw [decide_eq_true (by omega)] at c20
  have hr := subD z1 z2 h0 h1 h2
  obtain ⟨c, hcm, hc0⟩ := cmpD z1 z2 h1
  obtain ⟨A1, C1, rfl, hC1, hR1⟩ := hd1.form
  obtain ⟨A2, C2, rfl, hC2, hR2⟩ := hd2.form
  replace c11 : w.cell? ⟨a1, 1, none⟩ = some (.slice A1 1 C1) := c11
  replace c21 : w.cell? ⟨a2, 1, none⟩ = some (.slice A2 1 C2) := c21
  have hvr : vl [z1 - z2] = z1 - z2 := by simp only [vl]; omega
  have hir : inR [z1 - z2] := inR_one (by omega) (by omega)
  have hdc : decide (c ≥ 0) = true := decide_eq_true hc0
  have hdc' : decide (0 ≤ c) = true := decide_eq_true hc0
  have HB := Aside0.mk hB
  have HBK := Aside0.mk hb
  have HR1 := Aside0.mk hR1
  have HR2 := Aside0.mk hR2
  have HC1 := Aside0.mk hC1
  have HC2 := Aside0.mk hC2
  have HR := Aside0.mk hr
  have HCM := Aside0.mk hcm
  have HVR := Aside0.mk hvr
  have HIR := Aside0.mk hir
  clear hB hb hR1 hR2 hC1 hC2 hr hvr hir hd1 hd2 hi1 hi2 hcm h0 h1 h2
  go_enter Try.func39, Try.ntmps39
  go_wp2
  go_region
  have HBd := Aside0.mk (below_drew1 HB.out)
  have HKd := Aside0.mk ((Kept.refl w (fun k => k = b)).drew)
  have HBKd := Aside0.mk (show w.drew.heap[b]? = _ from HBK.out)
  have HR1d := Aside0.mk (Kd.C_drew HR1.out)
  have HR2d := Aside0.mk (Kd.C_drew HR2.out)
  replace c10 : w.drew.cell? ⟨a1, 0, none⟩ = _ := c10
  replace c11 : w.drew.cell? ⟨a1, 1, none⟩ = _ := c11
  replace c20 : w.drew.cell? ⟨a2, 0, none⟩ = _ := c20
  replace c21 : w.drew.cell? ⟨a2, 1, none⟩ = _ := c21
  clear HB HBK HR1 HR2
  generalize w.drew = u at c10 c11 c20 c21 HBd HKd HBKd HR1d HR2d ⊢
  go_wp2
  go_region_held3 (fun w' => w'.cell? ⟨a1, 1, none⟩ = some (.slice A1 1 C1) ∧ w'.cell? ⟨a2, 1, none⟩ = some (.slice A2 1 C2)) (first | exact ⟨c11, c21⟩ | exact ⟨k11, k21⟩) (first
    | (go_at_call 46
       refine (impl_compareDigits.calls 10 A1 C1 [z1] A2 C2 [z2] c u.drew (Kd.C_drew HR1d.out) HC1.out (Kd.C_drew HR2d.out) HC2.out HCM.out).mono ?_
       rintro e w9 ⟨rfl, hB9⟩
       have HB9 := Aside0.mk (show Below u.heap.size u w9 from below_then (below_drew1 (Below.refl _ u)) (Nat.le_refl _) hB9)
       have k10 := cells_below HB9.out c10
       have k11 := cells_below HB9.out c11
       have k21 := cells_below HB9.out c21
       have BK9 := Aside0.mk (blk_below HBKd.out HB9.out)
       clear hB9))
  have HB8 := Aside0.mk (below_then HBd.out HBd.out.size HB9.out)
  have HK8 := Aside0.mk (HKd.out.below HB9.out)
  have HR18 := Aside0.mk (Kd.C_below HR1d.out HB9.out)
  have HR28 := Aside0.mk (Kd.C_below HR2d.out HB9.out)
  clear HB9 HBd HKd HBKd HR1d HR2d c10 c11 c20 c21
  go_wp2
  go_region_held3 (fun w' => w'.cell? ⟨a1, 0, none⟩ = some (.bool false) ∧ w'.cell? ⟨a1, 1, none⟩ = some (.slice A1 1 C1) ∧ w'.cell? ⟨a2, 1, none⟩ = some (.slice A2 1 C2)) (first | exact ⟨k10, k11, k21⟩ | exact ⟨p10, p11, p21⟩ | exact ⟨q10, q11, q21⟩) (first
    | (go_at_call 47
       refine (impl_subDigits.calls 10 A1 C1 [z1] A2 C2 [z2] [z1 - z2] w9.drew (Kd.C_drew HR18.out) HC1.out (Kd.C_drew HR28.out) HC2.out HR.out).mono ?_
       rintro e w7 ⟨v7, rfl, hR7, hB7⟩
       have HD7 := Aside0.mk (Dg.of_R hR7)
       have HB7 := Aside0.mk (show Below w9.heap.size w9 w7 from below_then (below_drew1 (Below.refl _ w9)) (Nat.le_refl _) hB7)
       have p10 := cells_below HB7.out k10
       have p11 := cells_below HB7.out k11
       have p21 := cells_below HB7.out k21
       have BK7 := Aside0.mk (blk_below BK9.out HB7.out)
       clear hR7 hB7)
    | (go_at_call 42
       refine (putI.calls w0 w7 b x y BK7.out false v7 [z1 - z2] HD7.out HIR.out (z1 - z2) (by rw [HVR.out]; rfl) (below_then HB8.out HB8.out.size HB7.out) hge).mono ?_
       rintro e w8 ⟨rfl, hI8, hK8, hB8⟩
       have HI6 := Aside0.mk hI8.isI
       have HK6 := Aside0.mk (show Kept w9 w8 (fun k => k = b) from (Kept.of_below HB7.out _).then_ hK8 (fun k hk => Or.inl hk))
       have HB6 := Aside0.mk hB8
       have q10 := cell_kept p10 hK8 hn1
       have q11 := cell_kept p11 hK8 hn1
       have q21 := cell_kept p21 hK8 hn2
       clear hI8 hK8 hB8))
  go_wp2
  go_ret
  exact ⟨rfl, HI6.out, HK8.out.then_ HK6.out (fun k hk => Or.inl hk), HB6.out⟩
end Go.Proofs.Ytmkjkcfmjfeheaa.QFnExactMeanDeuce
