/- impl's parts, Odds.rat, twice, deuce, DeuceChance and MeanDeuce, walked. -/
import Derived.Test.YtmkjkcfmjfeheaaGNeg
namespace Go.Proofs.Ytmkjkcfmjfeheaa.QFnExactMeanDeuce
open Go.RowKit Go.Proofs.YtmkjkcfmjfeheaaW.PrintWords Go.Proofs.YtmkjkcfmjfeheaaW.PrintLast Go.Proofs.YtmkjkcfmjfeheaaW.PrintMore
set_option linter.unusedVariables false
set_option linter.unusedSimpArgs false
theorem int64D (n : Nat) (h : n < 4294967296) : impl_exactInt_Int64.f 5 false (dig n) = some ((n : Int), false) := by
  by_cases h0 : n = 0
  · subst h0
    rw [dig_zero]
    simp [impl_exactInt_Int64.f, impl_exactInt_Int64.l0, w64_0]
  · rw [dig_one n h0 h]
    have u1 : IntKind.u64.wrap (n : Int) = n := u64_of (by omega) (by omega)
    have u2 : shl .u64 (n : Int) 0 = n := by unfold shl; simp; exact u64_of (by omega) (by omega)
    have u3 : Go.bits .or .u64 0 (n : Int) = n := by
      have h := (or_add (c := 0) (y := (n : Int)) 0 (by decide) (by decide) (by decide) (by omega) (by omega) (by simp [Int.emod_one])).1
      rwa [Int.zero_add] at h
    have u4 : wrap64 (n : Int) = n := w64_of (by omega) (by omega)
    simp [impl_exactInt_Int64.f, impl_exactInt_Int64.l0, rd, w64_0, w64_1, u1, u2, u3, u4]
theorem IsJ.s41 {w w1 : World} {b : Nat} {z : Int} (h : IsJ w w1 b z) (hg : w.heap.size ≤ b) : IsS41 w w1 b (decide (z < 0)) (dig z.natAbs) := by
  obtain ⟨v, h1, _, h3⟩ := h
  obtain ⟨A, c, rfl, _, hC⟩ := h3.len rfl
  exact ⟨A, c, h1, hg, hC⟩
set_option maxHeartbeats 8000000 in
set_option maxRecDepth 100000 in
theorem parts.calls (w : World) (b : Nat) (n : Int) (d : Nat) (h : IsQ w b n d) (h0 : 0 ≤ n) (h1 : n < 4294967296) (h2 : d ≠ 0) (h3 : d < 4294967296) :
    Calls Try.prog 17 #[.pointer (some ⟨b, 0, none⟩)] w fun e w' => e = .returned (.tuple #[.int .i64 n, .int .i64 (d : Int), .bool true]) ∧ Below w.heap.size w w' := by
  have HQ := Aside0.mk h
  have H1 := int64D n.natAbs (by omega)
  rw [show ((n.natAbs : Nat) : Int) = n by omega] at H1
  have H2 := int64D d h3
  have N1 := Aside0.mk H1
  have N2 := Aside0.mk H2
  have HD := Aside0.mk h2
  have E1 := Aside0.mk (show decide (n < 0) = false from decide_eq_false (by omega))
  have E2 := Aside0.mk (show decide ((d : Int) < 0) = false from decide_eq_false (by omega))
  clear h H1 H2 h2 h0 h1 h3
  go_enter Try.func17, Try.ntmps17
  go_wp2_with fail
  refine (num.calls w b n d HQ.out).mono ?_
  rintro e w1 ⟨b1, rfl, hj, hg, hb⟩
  have S1 := hj.s41 hg
  rw [E1.out] at S1
  have J1 := Aside0.mk S1
  have B1 := Aside0.mk hb
  have Q1 := Aside0.mk (HQ.out.below hb)
  clear hj hg hb S1
  go_wp2_with fail
  refine (impl_exactInt_Int64.calls 5 b1 false (dig n.natAbs) n false w w1 J1.out B1.out N1.out).mono ?_
  rintro e w2 ⟨rfl, hs, hb, hk⟩
  have hne : b ≠ b1 := by
    have h1 := J1.out.ge
    have h2 := HQ.out.lt
    omega
  have Q2 := Aside0.mk (Q1.out.kept (S := fun k => k = b1) ⟨hk.1, fun i hi hn => hk.2 i hi hn (by simp)⟩ (by obtain ⟨A, c, h1, _, _⟩ := J1.out; exact noDg_one h1 (by decide)) hne)
  have B2 := Aside0.mk hb
  clear hs hb hk hne
  go_wp2_with fail
  refine (denom.calls w2 b n d Q2.out HD.out).mono ?_
  rintro e w3 ⟨b3, rfl, hj, hg, hb⟩
  have S3 := hj.s41 hg
  rw [E2.out, Int.natAbs_natCast] at S3
  have J3 := Aside0.mk S3
  have B3 := Aside0.mk hb
  clear hj hg hb S3
  go_wp2_with fail
  refine (impl_exactInt_Int64.calls 5 b3 false (dig d) (d : Int) false w2 w3 J3.out B3.out N2.out).mono ?_
  rintro e w4 ⟨rfl, hs, hb, hk⟩
  have B4 := Aside0.mk (below_then B2.out B2.out.size hb)
  clear hs hb hk
  go_wp2
  go_ret3
  exact ⟨rfl, B4.out⟩
abbrev Q2 := Int × Nat
def rN (n d : Int) : Q2 := (lowN n d.toNat, lowD n d.toNat)
def rM (x y : Q2) : Q2 := (lowN (x.1 * y.1) (den x.2 * den y.2), lowD (x.1 * y.1) (den x.2 * den y.2))
def rA (x y : Q2) : Q2 := (lowN (x.1 * (den y.2 : Int) + y.1 * (den x.2 : Int)) (den x.2 * den y.2), lowD (x.1 * (den y.2 : Int) + y.1 * (den x.2 : Int)) (den x.2 * den y.2))
def rS (x y : Q2) : Q2 := rA x (-y.1, y.2)
def rQ (x y : Q2) : Q2 := (lowN (x.1 * (den y.2 : Int)) (den x.2 * y.1.toNat), lowD (x.1 * (den y.2 : Int)) (den x.2 * y.1.toNat))
def okM (x y : Q2) : Bool := decide (x.1.natAbs < 4294967296 ∧ y.1.natAbs < 4294967296 ∧ den x.2 < 4294967296 ∧ den y.2 < 4294967296 ∧ (x.1 * y.1).natAbs < 4294967296 ∧ den x.2 * den y.2 < 4294967296)
def okA (x y : Q2) : Bool := okM x y && decide ((x.1 * (den y.2 : Int) + y.1 * (den x.2 : Int)).natAbs < 4294967296) &&
  decide (((x.1 * (den y.2 : Int)).natAbs < 4294967296 ∧ (y.1 * (den x.2 : Int)).natAbs < 4294967296 ∧ decide (x.1 * (den y.2 : Int) < 0) = decide (y.1 * (den x.2 : Int) < 0)) ∨ (y.1 * (den x.2 : Int) < 0 ∧ -(y.1 * (den x.2 : Int)) ≤ x.1 * (den y.2 : Int) ∧ x.1 * (den y.2 : Int) < 4294967296))
def okQ (x y : Q2) : Bool := okM x y && decide ((x.1 * (den y.2 : Int)).natAbs < 4294967296 ∧ den x.2 * y.1.toNat < 4294967296 ∧ 0 < y.1)
theorem okM_to {x y : Q2} (h : okM x y = true) : x.1.natAbs < 4294967296 ∧ y.1.natAbs < 4294967296 ∧ den x.2 < 4294967296 ∧ den y.2 < 4294967296 ∧ (x.1 * y.1).natAbs < 4294967296 ∧ den x.2 * den y.2 < 4294967296 := of_decide_eq_true h
theorem fit_low {n : Int} {d : Nat} (h1 : n.natAbs < 4294967296) (h2 : d < 4294967296) : Fit n d := ⟨by omega, by omega, Or.inl ⟨h1, h2⟩⟩
theorem mulQ.calls (w0 w : World) (zb : Nat) (x0 x1 x2 : Value) (hz : w.heap[zb]? = some (.cells #[x0, x1, x2] 43 (0, 0))) (xb : Nat) (x : Q2) (hx : IsQ w xb x.1 x.2) (yb : Nat) (y : Q2) (hy : IsQ w yb y.1 y.2) (hok : okM x y = true) (hB : Below w0.heap.size w0 w) (hge : w0.heap.size ≤ zb) :
    Calls Try.prog 32 #[.pointer (some ⟨zb, 0, none⟩), .pointer (some ⟨xb, 0, none⟩), .pointer (some ⟨yb, 0, none⟩)] w fun e w' => e = .returned (.pointer (some ⟨zb, 0, none⟩)) ∧ IsQ w' zb (rM x y).1 (rM x y).2 ∧ Kept w w' (fun k => k = zb) ∧ Below w0.heap.size w0 w' := by
  obtain ⟨s1, s2, s3, s4, s5, s6⟩ := okM_to hok
  have h := ratMul.calls w0 w zb x0 x1 x2 hz xb x.1 x.2 hx yb y.1 y.2 hy s1 s2 s3 (by rw [Int.natAbs_natCast]; exact s4) (by have := Nat.pos_of_ne_zero (den_ne y.2); omega) (by rw [Int.toNat_natCast]; exact fit_low s5 s6) hB hge
  rw [Int.toNat_natCast] at h
  exact h
theorem quoQ.calls (w0 w : World) (zb : Nat) (x0 x1 x2 : Value) (hz : w.heap[zb]? = some (.cells #[x0, x1, x2] 43 (0, 0))) (xb : Nat) (x : Q2) (hx : IsQ w xb x.1 x.2) (yb : Nat) (y : Q2) (hy : IsQ w yb y.1 y.2) (hok : okQ x y = true) (hB : Below w0.heap.size w0 w) (hge : w0.heap.size ≤ zb) :
    Calls Try.prog 18 #[.pointer (some ⟨zb, 0, none⟩), .pointer (some ⟨xb, 0, none⟩), .pointer (some ⟨yb, 0, none⟩)] w fun e w' => e = .returned (.pointer (some ⟨zb, 0, none⟩)) ∧ IsQ w' zb (rQ x y).1 (rQ x y).2 ∧ Kept w w' (fun k => k = zb) ∧ Below w0.heap.size w0 w' := by
  unfold okQ at hok
  rw [Bool.and_eq_true] at hok
  obtain ⟨s1, s2, s3, s4, s5, s6⟩ := okM_to hok.1
  obtain ⟨t1, t2, t3⟩ := of_decide_eq_true hok.2
  exact ratQuo.calls w0 w zb x0 x1 x2 hz xb x.1 x.2 hx yb y.1 y.2 hy s1 (by rw [Int.natAbs_natCast]; exact s4) s3 s2 t3 (fit_low t1 t2) hB hge
theorem addQ.calls (w0 w : World) (zb : Nat) (x0 x1 x2 : Value) (hz : w.heap[zb]? = some (.cells #[x0, x1, x2] 43 (0, 0))) (xb : Nat) (x : Q2) (hx : IsQ w xb x.1 x.2) (yb : Nat) (y : Q2) (hy : IsQ w yb y.1 y.2) (hok : okA x y = true) (hB : Below w0.heap.size w0 w) (hge : w0.heap.size ≤ zb) :
    Calls Try.prog 20 #[.pointer (some ⟨zb, 0, none⟩), .pointer (some ⟨xb, 0, none⟩), .pointer (some ⟨yb, 0, none⟩)] w fun e w' => e = .returned (.pointer (some ⟨zb, 0, none⟩)) ∧ IsQ w' zb (rA x y).1 (rA x y).2 ∧ Kept w w' (fun k => k = zb) ∧ Below w0.heap.size w0 w' := by
  unfold okA at hok
  rw [Bool.and_eq_true, Bool.and_eq_true] at hok
  obtain ⟨s1, s2, s3, s4, s5, s6⟩ := okM_to hok.1.1
  have t1 := of_decide_eq_true hok.1.2
  have t2 := of_decide_eq_true hok.2
  exact ratAdd.calls w0 w zb x0 x1 x2 hz xb x.1 x.2 hx yb y.1 y.2 hy s1 s2 s3 s4 (t2.elim (fun h => Or.inl ⟨by omega, by omega, h.2.2⟩) Or.inr) (fit_low t1 s6) hB hge
theorem subQ.calls (w0 w : World) (zb : Nat) (x0 x1 x2 : Value) (hz : w.heap[zb]? = some (.cells #[x0, x1, x2] 43 (0, 0))) (xb : Nat) (x : Q2) (hx : IsQ w xb x.1 x.2) (yb : Nat) (y : Q2) (hy : IsQ w yb y.1 y.2) (hok : okA x (-y.1, y.2) = true) (hB : Below w0.heap.size w0 w) (hge : w0.heap.size ≤ zb) :
    Calls Try.prog 31 #[.pointer (some ⟨zb, 0, none⟩), .pointer (some ⟨xb, 0, none⟩), .pointer (some ⟨yb, 0, none⟩)] w fun e w' => e = .returned (.pointer (some ⟨zb, 0, none⟩)) ∧ IsQ w' zb (rS x y).1 (rS x y).2 ∧ Kept w w' (fun k => k = zb) ∧ Below w0.heap.size w0 w' := by
  unfold okA at hok
  rw [Bool.and_eq_true, Bool.and_eq_true] at hok
  obtain ⟨s1, s2, s3, s4, s5, s6⟩ := okM_to hok.1.1
  have t1 := of_decide_eq_true hok.1.2
  have t2 := of_decide_eq_true hok.2
  dsimp only at s1 s2 s3 s4 s5 s6 t1 t2
  rw [Int.natAbs_neg] at s2
  exact ratSub.calls w0 w zb x0 x1 x2 hz xb x.1 x.2 hx yb y.1 y.2 hy s1 s2 s3 s4 (t2.elim (fun h => Or.inl ⟨by omega, by omega, h.2.2⟩) Or.inr) (fit_low t1 s6) hB hge
theorem newQ.calls (w : World) (n d : Int) (h0 : 0 ≤ n) (h1 : n < 4294967296) (h2 : 0 < d) (h3 : d < 4294967296) :
    Calls Try.prog 19 #[.int .i64 n, .int .i64 d] w fun e w' => ∃ b, e = .returned (.pointer (some ⟨b, 0, none⟩)) ∧ IsQ w' b (rN n d).1 (rN n d).2 ∧ w.heap.size ≤ b ∧ Below w.heap.size w w' := newRat.calls w n d h0 h1 h2 h3
/-- what twice, deuce and MeanDeuce reckon -/
def pF (n d : Int) : Q2 := rN n d
def qF (n d : Int) : Q2 := rS (rN 1 1) (pF n d)
def aF (n d : Int) : Q2 := rM (pF n d) (pF n d)
def bF (n d : Int) : Q2 := rM (qF n d) (qF n d)
def sF (n d : Int) : Q2 := rA (aF n d) (bF n d)
def dF (n d : Int) : Q2 := rQ (aF n d) (sF n d)
def mF (n d : Int) : Q2 := rQ (rN 2 1) (sF n d)
def okR (r : Q2) : Bool := decide (0 ≤ r.1 ∧ r.1 < 4294967296 ∧ r.2 ≠ 0 ∧ r.2 < 4294967296)
def okF (n d : Int) : Bool := okA (rN 1 1) (-(pF n d).1, (pF n d).2) && okM (pF n d) (pF n d) && okM (qF n d) (qF n d) && okA (aF n d) (bF n d) && okQ (aF n d) (sF n d) && okQ (rN 2 1) (sF n d) && okR (dF n d) && okR (mF n d)
theorem okF_nat : ∀ i, i < 11 → ∀ j, j < 11 → 0 < i → i < j → okF (i : Nat) (j : Nat) = true := by decide +kernel
theorem okF_all (n d : Int) (h0 : 0 < n) (h1 : n < d) (h2 : d ≤ 10) : okF n d = true := by
  have h := okF_nat n.toNat (by omega) d.toNat (by omega) (by omega) (by omega)
  rwa [Int.toNat_of_nonneg (by omega), Int.toNat_of_nonneg (by omega)] at h
structure OkF (n d : Int) : Prop where
  sub : okA (rN 1 1) (-(pF n d).1, (pF n d).2) = true
  pp : okM (pF n d) (pF n d) = true
  qq : okM (qF n d) (qF n d) = true
  add : okA (aF n d) (bF n d) = true
  quo : okQ (aF n d) (sF n d) = true
  quo2 : okQ (rN 2 1) (sF n d) = true
  rd : okR (dF n d) = true
  rm : okR (mF n d) = true
theorem OkF.of (n d : Int) (h : okF n d = true) : OkF n d := by
  unfold okF at h
  simp only [Bool.and_eq_true] at h
  obtain ⟨⟨⟨⟨⟨⟨⟨h1, h2⟩, h3⟩, h4⟩, h5⟩, h6⟩, h7⟩, h8⟩ := h
  exact ⟨h1, h2, h3, h4, h5, h6, h7, h8⟩
set_option maxHeartbeats 8000000 in
set_option maxRecDepth 100000 in
theorem rat.calls (w : World) (n d : Int) (h0 : 0 ≤ n) (h1 : n < 4294967296) (h2 : 0 < d) (h3 : d < 4294967296) :
    Calls Try.prog 30 #[.agg #[.int .i64 n, .int .i64 d]] w fun e w' => ∃ b, e = .returned (.pointer (some ⟨b, 0, none⟩)) ∧ IsQ w' b (rN n d).1 (rN n d).2 ∧ w.heap.size ≤ b ∧ Below w.heap.size w w' := by
  have hu26 := Try.underlying26
  go_enter Try.func30, Try.ntmps30
  go_wp2_with fail
  refine (newQ.calls _ n d h0 h1 h2 h3).mono ?_
  rintro e w1 ⟨b, rfl, hq, hg, hb⟩
  have HQ := Aside0.mk hq
  have HB := Aside0.mk (below_then (below_alloc (Below.refl _ w) (.cells #[.int .i64 n, .int .i64 d] 26 (0, 0))) (by rw [size41]; omega) hb)
  have HG := Aside0.mk (show w.heap.size ≤ b by rw [size41] at hg; omega)
  clear hq hg hb
  go_wp2
  go_ret
  exact ⟨_, rfl, HQ.out, HG.out, HB.out⟩
set_option maxHeartbeats 8000000 in
set_option maxRecDepth 100000 in
theorem twice.calls (w : World) (n d : Int) (h0 : 0 < n) (h1 : n < d) (h2 : d ≤ 10) :
    Calls Try.prog 16 #[.agg #[.int .i64 n, .int .i64 d]] w fun e w' => ∃ a b, e = .returned (.tuple #[.pointer (some ⟨a, 0, none⟩), .pointer (some ⟨b, 0, none⟩)]) ∧ IsQ w' a (aF n d).1 (aF n d).2 ∧ IsQ w' b (bF n d).1 (bF n d).2 ∧ a ≠ b ∧ w.heap.size ≤ a ∧ w.heap.size ≤ b ∧ Below w.heap.size w w' := by
  have hu26 := Try.underlying26
  have OK := OkF.of n d (okF_all n d h0 h1 h2)
  have hb0 := below_alloc (Below.refl _ w) (.cells #[.int .i64 n, .int .i64 d] 26 (0, 0))
  have B0 := Aside0.mk hb0
  have n0 : 0 ≤ n := by omega
  have n1 : n < 4294967296 := by omega
  have d0 : 0 < d := by omega
  have d1 : d < 4294967296 := by omega
  have HN := Aside0.mk (And.intro n0 (And.intro n1 (And.intro d0 d1)))
  clear hb0 n0 n1 d0 d1 h0 h1 h2
  go_enter Try.func16, Try.ntmps16
  go_wp2_with fail
  refine (rat.calls _ n d HN.out.1 HN.out.2.1 HN.out.2.2.1 HN.out.2.2.2).mono ?_
  rintro e w1 ⟨p, rfl, hq, hg, hb⟩
  have hb1 := below_alloc (Below.refl _ w1) (.cells #[.bool false, .slice none 0 0, .slice none 0 0] 43 (0, 0))
  have P1 := Aside0.mk ((show IsQ w1 p (pF n d).1 (pF n d).2 from hq).below hb1)
  have A1 := Aside0.mk (blk_new w1 (.cells #[.bool false, .slice none 0 0, .slice none 0 0] 43 (0, 0)))
  have B1 := Aside0.mk (below_then (below_then B0.out B0.out.size hb) (below_then B0.out B0.out.size hb).size hb1)
  have G1 := Aside0.mk (below_then B0.out B0.out.size hb).size
  have NP := Aside0.mk (show p < w1.heap.size from hq.lt)
  clear hq hg hb hb1
  go_wp2_with fail
  refine (newQ.calls _ 1 1 (by decide) (by decide) (by decide) (by decide)).mono ?_
  rintro e w2 ⟨o, rfl, hq, hg, hb⟩
  have O2 := Aside0.mk hq
  have P2 := Aside0.mk (P1.out.below hb)
  have A2 := Aside0.mk (blk_below A1.out hb)
  have B2 := Aside0.mk (below_then B1.out B1.out.size hb)
  clear hq hg hb P1 A1 B1
  go_wp2_with fail
  refine (subQ.calls w w2 w1.heap.size _ _ _ A2.out o (rN 1 1) O2.out p (pF n d) P2.out OK.sub B2.out G1.out).mono ?_
  rintro e w3 ⟨rfl, hq, hk, hb⟩
  have nd := noDg_one A2.out (by decide)
  have hb3 := below_alloc (Below.refl _ w3) (.cells #[.bool false, .slice none 0 0, .slice none 0 0] 43 (0, 0))
  have Q3 := Aside0.mk ((show IsQ w3 w1.heap.size (qF n d).1 (qF n d).2 from hq).below hb3)
  have P3 := Aside0.mk ((P2.out.kept hk nd (show p ≠ w1.heap.size by have := NP.out; omega)).below hb3)
  have A3 := Aside0.mk (blk_new w3 (.cells #[.bool false, .slice none 0 0, .slice none 0 0] 43 (0, 0)))
  have B3 := Aside0.mk (below_then hb hb.size hb3)
  have G3 := Aside0.mk hb.size
  have L3 := Aside0.mk (show w1.heap.size < w3.heap.size from hq.lt)
  clear hq hk hb hb3 nd O2 P2 A2 B2
  go_wp2_with fail
  refine (mulQ.calls w _ w3.heap.size _ _ _ A3.out p (pF n d) P3.out p (pF n d) P3.out OK.pp B3.out G3.out).mono ?_
  rintro e w4 ⟨rfl, hq, hk, hb⟩
  have nd := noDg_one A3.out (by decide)
  have R4 := Aside0.mk (show IsQ w4 w3.heap.size (aF n d).1 (aF n d).2 from hq)
  have Q4 := Aside0.mk (Q3.out.kept hk nd (show w1.heap.size ≠ w3.heap.size by have := L3.out; omega))
  have B4 := Aside0.mk hb
  obtain ⟨y0, y1, y2, hz4⟩ := Q4.out.block
  have Z4 := Aside0.mk hz4
  clear hq hk hb nd P3 A3 B3 Q3 hz4
  go_wp2_with fail
  refine (mulQ.calls w w4 w1.heap.size _ _ _ Z4.out w1.heap.size (qF n d) Q4.out w1.heap.size (qF n d) Q4.out OK.qq B4.out G1.out).mono ?_
  rintro e w5 ⟨rfl, hq, hk, hb⟩
  have nd := noDg_one Z4.out (by decide)
  have S5 := Aside0.mk (show IsQ w5 w1.heap.size (bF n d).1 (bF n d).2 from hq)
  have R5 := Aside0.mk (R4.out.kept hk nd (show w3.heap.size ≠ w1.heap.size by have := L3.out; omega))
  have B5 := Aside0.mk hb
  clear hq hk hb nd
  go_wp2
  go_ret2
  exact ⟨_, _, rfl, R5.out, S5.out, by have := L3.out; omega, G3.out, G1.out, B5.out⟩
end Go.Proofs.Ytmkjkcfmjfeheaa.QFnExactMeanDeuce
