/- impl's newRat, exactRat.Mul, Quo, Add, Set, Neg and Sub, walked. -/
import Derived.Test.YtmkjkcfmjfeheaaGFrac
namespace Go.Proofs.Ytmkjkcfmjfeheaa.QFnExactMeanDeuce
open Go.RowKit Go.Proofs.YtmkjkcfmjfeheaaW.PrintWords Go.Proofs.YtmkjkcfmjfeheaaW.PrintLast Go.Proofs.YtmkjkcfmjfeheaaW.PrintMore
set_option linter.unusedVariables false
set_option linter.unusedSimpArgs false
/-- the zero of an exactInt -/
def z41 : Obj := .cells #[.bool false, .slice none 0 0] 41 (0, 0)
def z43 : Obj := .cells #[.bool false, .slice none 0 0, .slice none 0 0] 43 (0, 0)
/-- small enough for the division that is at hand -/
def Fit (n : Int) (d : Nat) : Prop := n.natAbs < 18446744073709551616 ∧ d < 18446744073709551616 ∧ ((n.natAbs < 4294967296 ∧ d < 4294967296) ∨ Div22)
theorem IsQ.block {w : World} {b : Nat} {n : Int} {d : Nat} (h : IsQ w b n d) : ∃ x0 x1 x2, w.heap[b]? = some (.cells #[x0, x1, x2] 43 (0, 0)) := by
  obtain ⟨v, u, h1, _, _⟩ := h
  exact ⟨_, _, _, h1⟩
theorem IsI.block {w : World} {b : Nat} {z : Int} (h : IsI w b z) : ∃ x y, w.heap[b]? = some (.cells #[x, y] 41 (0, 0)) := by
  obtain ⟨v, h1, _⟩ := h
  exact ⟨_, _, h1⟩
theorem IsI.lt {w : World} {b : Nat} {z : Int} (h : IsI w b z) : b < w.heap.size := by
  obtain ⟨v, h1, _⟩ := h
  exact blk_lt h1
theorem IsQ.lt {w : World} {b : Nat} {n : Int} {d : Nat} (h : IsQ w b n d) : b < w.heap.size := by
  obtain ⟨v, u, h1, _, _⟩ := h
  exact blk_lt h1
theorem size41 (w : World) (o : Obj) : (w.alloc o).heap.size = w.heap.size + 1 := World.size_alloc _ _
set_option maxHeartbeats 8000000 in
set_option maxRecDepth 100000 in
theorem newRat.calls (w : World) (n d : Int) (h0 : 0 ≤ n) (h1 : n < 4294967296) (h2 : 0 < d) (h3 : d < 4294967296) :
    Calls Try.prog 19 #[.int .i64 n, .int .i64 d] w fun e w' => ∃ b, e = .returned (.pointer (some ⟨b, 0, none⟩)) ∧ IsQ w' b (lowN n d.toNat) (lowD n d.toNat) ∧ w.heap.size ≤ b ∧ Below w.heap.size w w' := by
  have hz := Aside0.mk (blk_new w (.cells #[.bool false, .slice none 0 0, .slice none 0 0] 43 (0, 0)))
  have hb := Aside0.mk (below_alloc (Below.refl _ w) (.cells #[.bool false, .slice none 0 0, .slice none 0 0] 43 (0, 0)))
  have H := Aside0.mk (And.intro h0 (And.intro h1 (And.intro h2 h3)))
  clear h0 h1 h2 h3
  have n63 : n < 9223372036854775808 := by have := H.out; omega
  have d63 : d < 9223372036854775808 := by have := H.out; omega
  have d0 : 0 ≤ d := by have := H.out; omega
  have N63 := Aside0.mk (And.intro n63 (And.intro d63 d0))
  clear n63 d63 d0
  go_enter Try.func19, Try.ntmps19
  go_wp2_with fail
  refine (newInt.calls _ n H.out.1 N63.out.1).mono ?_
  rintro e w1 ⟨b1, rfl, hi1, hb1, hB1⟩
  have HI1 := Aside0.mk hi1
  have HB1 := Aside0.mk (below_then hb.out hb.out.size hB1)
  have HZ1 := Aside0.mk (blk_below hz.out hB1)
  clear hi1 hb1 hB1
  go_wp2_with fail
  refine (newInt.calls w1 d N63.out.2.2 N63.out.2.1).mono ?_
  rintro e w2 ⟨b2, rfl, hi2, hb2, hB2⟩
  have HI2 := Aside0.mk (show IsI w2 b2 ((d.toNat : Nat) : Int) by rw [Int.toNat_of_nonneg N63.out.2.2]; exact hi2)
  have HI12 := Aside0.mk (HI1.out.below hB2)
  have HB2 := Aside0.mk (below_then HB1.out HB1.out.size hB2)
  have HZ2 := Aside0.mk (blk_below HZ1.out hB2)
  have hdn : d.toNat ≠ 0 := by have := H.out; omega
  have hs1 : n.natAbs < 18446744073709551616 := by have := H.out; omega
  have hs2 : d.toNat < 18446744073709551616 := by have := H.out; omega
  have hs3 : (n.natAbs < 4294967296 ∧ d.toNat < 4294967296) ∨ Div22 := Or.inl (by have := H.out; omega)
  have HS := Aside0.mk (And.intro hdn (And.intro hs1 (And.intro hs2 hs3)))
  clear hi2 hb2 hB2 hdn hs1 hs2 hs3
  go_wp2_with fail
  refine (setFrac.calls w w2 w.heap.size _ _ _ HZ2.out b1 n HI12.out b2 d.toNat HI2.out HS.out.1 HS.out.2.1 HS.out.2.2.1 HS.out.2.2.2 HB2.out (Nat.le_refl _)).mono ?_
  rintro e w3 ⟨rfl, hq, hk, hB⟩
  have HQ := Aside0.mk hq
  have HB := Aside0.mk hB
  clear hq hk hB
  go_wp2
  go_ret
  exact ⟨_, rfl, HQ.out, Nat.le_refl _, HB.out⟩
set_option maxHeartbeats 8000000 in
set_option maxRecDepth 100000 in
/-- impl's exactRat.Mul -/
theorem ratMul.calls (w0 w : World) (zb : Nat) (x0 x1 x2 : Value) (hz : w.heap[zb]? = some (.cells #[x0, x1, x2] 43 (0, 0))) (xb : Nat) (n1 : Int) (d1 : Nat) (hx : IsQ w xb n1 d1) (yb : Nat) (n2 : Int) (d2 : Nat) (hy : IsQ w yb n2 d2)
    (s1 : n1.natAbs < 4294967296) (s2 : (n2 : Int).natAbs < 4294967296) (s3 : den d1 < 4294967296) (s4 : ((den d2 : Int) : Int).natAbs < 4294967296) (hpos : 0 < (den d2 : Int)) (hf : Fit (n1 * n2) (den d1 * ((den d2 : Int) : Int).toNat)) (hB : Below w0.heap.size w0 w) (hge : w0.heap.size ≤ zb) :
    Calls Try.prog 32 #[.pointer (some ⟨zb, 0, none⟩), .pointer (some ⟨xb, 0, none⟩), .pointer (some ⟨yb, 0, none⟩)] w fun e w' => e = .returned (.pointer (some ⟨zb, 0, none⟩)) ∧
      IsQ w' zb (lowN (n1 * n2) (den d1 * ((den d2 : Int) : Int).toNat)) (lowD (n1 * n2) (den d1 * ((den d2 : Int) : Int).toNat)) ∧ Kept w w' (fun k => k = zb) ∧ Below w0.heap.size w0 w' := by
  have HB := Aside0.mk hB
  have HS := Aside0.mk (And.intro s1 (And.intro s2 (And.intro s3 s4)))
  have HF := Aside0.mk hf
  have HP := Aside0.mk hpos
  have hba := below_alloc (Below.refl _ w) (.cells #[.bool false, .slice none 0 0] 41 (0, 0))
  have B0 := Aside0.mk hba
  have X0 := Aside0.mk (hx.below hba)
  have Y0 := Aside0.mk (hy.below hba)
  have Z0 := Aside0.mk (blk_below hz hba)
  have A0 := Aside0.mk (blk_new w (.cells #[.bool false, .slice none 0 0] 41 (0, 0)))
  clear hB s1 s2 s3 s4 hf hpos hba hx hy hz
  go_enter Try.func32, Try.ntmps32
  go_wp2_with fail
  refine (numI.calls _ xb n1 d1 X0.out).mono ?_
  rintro e w1 ⟨b1, rfl, hi, hge1, hb⟩
  have I1 := Aside0.mk hi
  have X1 := Aside0.mk (X0.out.below hb)
  have Y1 := Aside0.mk (Y0.out.below hb)
  have Z1 := Aside0.mk (blk_below Z0.out hb)
  have A1 := Aside0.mk (blk_below A0.out hb)
  have B1 := Aside0.mk (below_then B0.out B0.out.size hb)
  have N1 := Aside0.mk (show b1 ≠ w.heap.size by rw [size41] at hge1; omega)
  clear hi hge1 hb X0 Y0 Z0 A0 B0
  go_wp2_with fail
  refine (numI.calls w1 yb n2 d2 Y1.out).mono ?_
  rintro e w2 ⟨b2, rfl, hi, hge2, hb⟩
  have I2 := Aside0.mk hi
  have I12 := Aside0.mk (I1.out.below hb)
  have X2 := Aside0.mk (X1.out.below hb)
  have Y2 := Aside0.mk (Y1.out.below hb)
  have Z2 := Aside0.mk (blk_below Z1.out hb)
  have A2 := Aside0.mk (blk_below A1.out hb)
  have B2 := Aside0.mk (below_then B1.out B1.out.size hb)
  have N2 := Aside0.mk (show b2 ≠ w.heap.size by have := blk_lt A1.out; omega)
  clear hi hge2 hb X1 Y1 Z1 A1 B1 I1
  go_wp2_with fail
  refine (mul.calls w w2 w.heap.size _ _ A2.out b1 n1 I12.out b2 n2 I2.out HS.out.1 HS.out.2.1 N1.out N2.out B2.out (Nat.le_refl _)).mono ?_
  rintro e w3 ⟨rfl, hi, hk, hb⟩
  have nd := noDg_one A2.out (by decide)
  have P3 := Aside0.mk hi
  have hxa : xb ≠ w.heap.size := by intro e; obtain ⟨_, _, h1, _⟩ := X2.out; rw [e, A2.out] at h1; injection h1 with h1; injection h1 with _ h1; exact absurd h1 (by decide)
  have hya : yb ≠ w.heap.size := by intro e; obtain ⟨_, _, h1, _⟩ := Y2.out; rw [e, A2.out] at h1; injection h1 with h1; injection h1 with _ h1; exact absurd h1 (by decide)
  have hza : zb ≠ w.heap.size := by intro e; have h1 := Z2.out; rw [e, A2.out] at h1; injection h1 with h1; injection h1 with _ h1; exact absurd h1 (by decide)
  have hb3 := below_alloc (Below.refl _ w3) (.cells #[.bool false, .slice none 0 0] 41 (0, 0))
  have X3 := Aside0.mk ((X2.out.kept hk nd hxa).below hb3)
  have Y3 := Aside0.mk ((Y2.out.kept hk nd hya).below hb3)
  have Z3 := Aside0.mk (blk_below (blk_kept Z2.out hk hza) hb3)
  have PA3 := Aside0.mk (P3.out.below hb3)
  have A3 := Aside0.mk (blk_new w3 (.cells #[.bool false, .slice none 0 0] 41 (0, 0)))
  have B3 := Aside0.mk (below_then hb hb.size hb3)
  have L3 := Aside0.mk (show w.heap.size ≠ w3.heap.size by have := P3.out.lt; omega)
  have G3 := Aside0.mk hb.size
  clear hi hk hb nd hxa hya hza hb3 X2 Y2 Z2 A2 B2 I12 I2 N1 N2 P3
  go_wp2_with fail
  refine (denI.calls _ xb n1 d1 X3.out).mono ?_
  rintro e w4 ⟨b4, rfl, hi, hge4, hb⟩
  have I4 := Aside0.mk hi
  have Y4 := Aside0.mk (Y3.out.below hb)
  have Z4 := Aside0.mk (blk_below Z3.out hb)
  have PA4 := Aside0.mk (PA3.out.below hb)
  have A4 := Aside0.mk (blk_below A3.out hb)
  have B4 := Aside0.mk (below_then B3.out B3.out.size hb)
  have N4 := Aside0.mk (show b4 ≠ w3.heap.size by rw [size41] at hge4; omega)
  clear hi hge4 hb X3 Y3 Z3 A3 B3 PA3
  go_wp2_with fail
  refine (denI.calls w4 yb n2 d2 Y4.out).mono ?_
  rintro e w5 ⟨b5, rfl, hi, hge5, hb⟩
  have I5 := Aside0.mk hi
  have I45 := Aside0.mk (I4.out.below hb)
  have Z5 := Aside0.mk (blk_below Z4.out hb)
  have PA5 := Aside0.mk (PA4.out.below hb)
  have A5 := Aside0.mk (blk_below A4.out hb)
  have B5 := Aside0.mk (below_then B4.out B4.out.size hb)
  have N5 := Aside0.mk (show b5 ≠ w3.heap.size by have := blk_lt A4.out; omega)
  clear hi hge5 hb Y4 Z4 A4 B4 PA4 I4
  have s3 : ((den d1 : Nat) : Int).natAbs < 4294967296 := by rw [Int.natAbs_natCast]; exact HS.out.2.2.1
  have S3 := Aside0.mk s3
  clear s3
  go_wp2_with fail
  refine (mul.calls w w5 w3.heap.size _ _ A5.out b4 (den d1 : Int) I45.out b5 (den d2 : Int) I5.out S3.out HS.out.2.2.2 N4.out N5.out B5.out G3.out).mono ?_
  rintro e w6 ⟨rfl, hi, hk, hb⟩
  have nd := noDg_one A5.out (by decide)
  have e6 : (den d1 : Int) * (den d2 : Int) = ((den d1 * ((den d2 : Int) : Int).toNat : Nat) : Int) := by
    rw [Int.natCast_mul, Int.toNat_of_nonneg (Int.le_of_lt HP.out)]
  rw [e6] at hi
  have Q6 := Aside0.mk hi
  have hza : zb ≠ w3.heap.size := by intro e; have h1 := Z5.out; rw [e, A5.out] at h1; injection h1 with h1; injection h1 with _ h1; exact absurd h1 (by decide)
  have Z6 := Aside0.mk (blk_kept Z5.out hk hza)
  have PA6 := Aside0.mk (PA5.out.kept hk nd L3.out)
  have B6 := Aside0.mk hb
  have BB6 := Aside0.mk (below_then HB.out HB.out.size hb)
  have hd0 : den d1 * ((den d2 : Int) : Int).toNat ≠ 0 := by
    have h1 := Nat.pos_of_ne_zero (den_ne d1)
    have h2 : 0 < ((den d2 : Int) : Int).toNat := by have := HP.out; omega
    exact Nat.ne_of_gt (Nat.mul_pos h1 h2)
  have D0 := Aside0.mk hd0
  clear hi hk hb nd e6 hza hd0 Z5 A5 B5 PA5 I45 I5 N4 N5
  go_wp2_with fail
  refine (setFrac.calls w0 w6 zb x0 x1 x2 Z6.out w.heap.size (n1 * n2) PA6.out w3.heap.size (den d1 * ((den d2 : Int) : Int).toNat) Q6.out D0.out HF.out.1 HF.out.2.1 HF.out.2.2 BB6.out hge).mono ?_
  rintro e w7 ⟨rfl, hq, hk, hb⟩
  have HQ := Aside0.mk hq
  have HK := Aside0.mk ((Kept.of_below B6.out (fun k => k = zb)).then_ hk (fun k hk => Or.inl hk))
  have HBB := Aside0.mk hb
  clear hq hk hb
  go_wp2
  go_ret
  exact ⟨rfl, HQ.out, HK.out, HBB.out⟩
set_option maxHeartbeats 8000000 in
set_option maxRecDepth 100000 in
/-- impl's exactRat.Quo -/
theorem ratQuo.calls (w0 w : World) (zb : Nat) (x0 x1 x2 : Value) (hz : w.heap[zb]? = some (.cells #[x0, x1, x2] 43 (0, 0))) (xb : Nat) (n1 : Int) (d1 : Nat) (hx : IsQ w xb n1 d1) (yb : Nat) (n2 : Int) (d2 : Nat) (hy : IsQ w yb n2 d2)
    (s1 : n1.natAbs < 4294967296) (s2 : ((den d2 : Int) : Int).natAbs < 4294967296) (s3 : den d1 < 4294967296) (s4 : (n2 : Int).natAbs < 4294967296) (hpos : 0 < n2) (hf : Fit (n1 * (den d2 : Int)) (den d1 * (n2 : Int).toNat)) (hB : Below w0.heap.size w0 w) (hge : w0.heap.size ≤ zb) :
    Calls Try.prog 18 #[.pointer (some ⟨zb, 0, none⟩), .pointer (some ⟨xb, 0, none⟩), .pointer (some ⟨yb, 0, none⟩)] w fun e w' => e = .returned (.pointer (some ⟨zb, 0, none⟩)) ∧
      IsQ w' zb (lowN (n1 * (den d2 : Int)) (den d1 * (n2 : Int).toNat)) (lowD (n1 * (den d2 : Int)) (den d1 * (n2 : Int).toNat)) ∧ Kept w w' (fun k => k = zb) ∧ Below w0.heap.size w0 w' := by
  have HB := Aside0.mk hB
  have HS := Aside0.mk (And.intro s1 (And.intro s2 (And.intro s3 s4)))
  have HF := Aside0.mk hf
  have HP := Aside0.mk hpos
  have hba := below_alloc (Below.refl _ w) (.cells #[.bool false, .slice none 0 0] 41 (0, 0))
  have B0 := Aside0.mk hba
  have X0 := Aside0.mk (hx.below hba)
  have Y0 := Aside0.mk (hy.below hba)
  have Z0 := Aside0.mk (blk_below hz hba)
  have A0 := Aside0.mk (blk_new w (.cells #[.bool false, .slice none 0 0] 41 (0, 0)))
  clear hB s1 s2 s3 s4 hf hpos hba hx hy hz
  go_enter Try.func18, Try.ntmps18
  go_wp2_with fail
  refine (numI.calls _ xb n1 d1 X0.out).mono ?_
  rintro e w1 ⟨b1, rfl, hi, hge1, hb⟩
  have I1 := Aside0.mk hi
  have X1 := Aside0.mk (X0.out.below hb)
  have Y1 := Aside0.mk (Y0.out.below hb)
  have Z1 := Aside0.mk (blk_below Z0.out hb)
  have A1 := Aside0.mk (blk_below A0.out hb)
  have B1 := Aside0.mk (below_then B0.out B0.out.size hb)
  have N1 := Aside0.mk (show b1 ≠ w.heap.size by rw [size41] at hge1; omega)
  clear hi hge1 hb X0 Y0 Z0 A0 B0
  go_wp2_with fail
  refine (denI.calls w1 yb n2 d2 Y1.out).mono ?_
  rintro e w2 ⟨b2, rfl, hi, hge2, hb⟩
  have I2 := Aside0.mk hi
  have I12 := Aside0.mk (I1.out.below hb)
  have X2 := Aside0.mk (X1.out.below hb)
  have Y2 := Aside0.mk (Y1.out.below hb)
  have Z2 := Aside0.mk (blk_below Z1.out hb)
  have A2 := Aside0.mk (blk_below A1.out hb)
  have B2 := Aside0.mk (below_then B1.out B1.out.size hb)
  have N2 := Aside0.mk (show b2 ≠ w.heap.size by have := blk_lt A1.out; omega)
  clear hi hge2 hb X1 Y1 Z1 A1 B1 I1
  go_wp2_with fail
  refine (mul.calls w w2 w.heap.size _ _ A2.out b1 n1 I12.out b2 (den d2 : Int) I2.out HS.out.1 HS.out.2.1 N1.out N2.out B2.out (Nat.le_refl _)).mono ?_
  rintro e w3 ⟨rfl, hi, hk, hb⟩
  have nd := noDg_one A2.out (by decide)
  have P3 := Aside0.mk hi
  have hxa : xb ≠ w.heap.size := by intro e; obtain ⟨_, _, h1, _⟩ := X2.out; rw [e, A2.out] at h1; injection h1 with h1; injection h1 with _ h1; exact absurd h1 (by decide)
  have hya : yb ≠ w.heap.size := by intro e; obtain ⟨_, _, h1, _⟩ := Y2.out; rw [e, A2.out] at h1; injection h1 with h1; injection h1 with _ h1; exact absurd h1 (by decide)
  have hza : zb ≠ w.heap.size := by intro e; have h1 := Z2.out; rw [e, A2.out] at h1; injection h1 with h1; injection h1 with _ h1; exact absurd h1 (by decide)
  have hb3 := below_alloc (Below.refl _ w3) (.cells #[.bool false, .slice none 0 0] 41 (0, 0))
  have X3 := Aside0.mk ((X2.out.kept hk nd hxa).below hb3)
  have Y3 := Aside0.mk ((Y2.out.kept hk nd hya).below hb3)
  have Z3 := Aside0.mk (blk_below (blk_kept Z2.out hk hza) hb3)
  have PA3 := Aside0.mk (P3.out.below hb3)
  have A3 := Aside0.mk (blk_new w3 (.cells #[.bool false, .slice none 0 0] 41 (0, 0)))
  have B3 := Aside0.mk (below_then hb hb.size hb3)
  have L3 := Aside0.mk (show w.heap.size ≠ w3.heap.size by have := P3.out.lt; omega)
  have G3 := Aside0.mk hb.size
  clear hi hk hb nd hxa hya hza hb3 X2 Y2 Z2 A2 B2 I12 I2 N1 N2 P3
  go_wp2_with fail
  refine (denI.calls _ xb n1 d1 X3.out).mono ?_
  rintro e w4 ⟨b4, rfl, hi, hge4, hb⟩
  have I4 := Aside0.mk hi
  have Y4 := Aside0.mk (Y3.out.below hb)
  have Z4 := Aside0.mk (blk_below Z3.out hb)
  have PA4 := Aside0.mk (PA3.out.below hb)
  have A4 := Aside0.mk (blk_below A3.out hb)
  have B4 := Aside0.mk (below_then B3.out B3.out.size hb)
  have N4 := Aside0.mk (show b4 ≠ w3.heap.size by rw [size41] at hge4; omega)
  clear hi hge4 hb X3 Y3 Z3 A3 B3 PA3
  go_wp2_with fail
  refine (numI.calls w4 yb n2 d2 Y4.out).mono ?_
  rintro e w5 ⟨b5, rfl, hi, hge5, hb⟩
  have I5 := Aside0.mk hi
  have I45 := Aside0.mk (I4.out.below hb)
  have Z5 := Aside0.mk (blk_below Z4.out hb)
  have PA5 := Aside0.mk (PA4.out.below hb)
  have A5 := Aside0.mk (blk_below A4.out hb)
  have B5 := Aside0.mk (below_then B4.out B4.out.size hb)
  have N5 := Aside0.mk (show b5 ≠ w3.heap.size by have := blk_lt A4.out; omega)
  clear hi hge5 hb Y4 Z4 A4 B4 PA4 I4
  have s3 : ((den d1 : Nat) : Int).natAbs < 4294967296 := by rw [Int.natAbs_natCast]; exact HS.out.2.2.1
  have S3 := Aside0.mk s3
  clear s3
  go_wp2_with fail
  refine (mul.calls w w5 w3.heap.size _ _ A5.out b4 (den d1 : Int) I45.out b5 n2 I5.out S3.out HS.out.2.2.2 N4.out N5.out B5.out G3.out).mono ?_
  rintro e w6 ⟨rfl, hi, hk, hb⟩
  have nd := noDg_one A5.out (by decide)
  have e6 : (den d1 : Int) * n2 = ((den d1 * (n2 : Int).toNat : Nat) : Int) := by
    rw [Int.natCast_mul, Int.toNat_of_nonneg (Int.le_of_lt HP.out)]
  rw [e6] at hi
  have Q6 := Aside0.mk hi
  have hza : zb ≠ w3.heap.size := by intro e; have h1 := Z5.out; rw [e, A5.out] at h1; injection h1 with h1; injection h1 with _ h1; exact absurd h1 (by decide)
  have Z6 := Aside0.mk (blk_kept Z5.out hk hza)
  have PA6 := Aside0.mk (PA5.out.kept hk nd L3.out)
  have B6 := Aside0.mk hb
  have BB6 := Aside0.mk (below_then HB.out HB.out.size hb)
  have hd0 : den d1 * (n2 : Int).toNat ≠ 0 := by
    have h1 := Nat.pos_of_ne_zero (den_ne d1)
    have h2 : 0 < (n2 : Int).toNat := by have := HP.out; omega
    exact Nat.ne_of_gt (Nat.mul_pos h1 h2)
  have D0 := Aside0.mk hd0
  clear hi hk hb nd e6 hza hd0 Z5 A5 B5 PA5 I45 I5 N4 N5
  go_wp2_with fail
  refine (setFrac.calls w0 w6 zb x0 x1 x2 Z6.out w.heap.size (n1 * (den d2 : Int)) PA6.out w3.heap.size (den d1 * (n2 : Int).toNat) Q6.out D0.out HF.out.1 HF.out.2.1 HF.out.2.2 BB6.out hge).mono ?_
  rintro e w7 ⟨rfl, hq, hk, hb⟩
  have HQ := Aside0.mk hq
  have HK := Aside0.mk ((Kept.of_below B6.out (fun k => k = zb)).then_ hk (fun k hk => Or.inl hk))
  have HBB := Aside0.mk hb
  clear hq hk hb
  go_wp2
  go_ret
  exact ⟨rfl, HQ.out, HK.out, HBB.out⟩
/-- when exactInt.Add is walked here -/
def AddFit (z1 z2 : Int) : Prop := (z1.natAbs < 18446744073709551616 ∧ z2.natAbs < 18446744073709551616 ∧ decide (z1 < 0) = decide (z2 < 0)) ∨ (z2 < 0 ∧ -z2 ≤ z1 ∧ z1 < 4294967296)
theorem addI.calls (w0 w : World) (b : Nat) (x y : Value) (hb : w.heap[b]? = some (.cells #[x, y] 41 (0, 0))) (a1 : Nat) (z1 : Int) (hi1 : IsI w a1 z1) (a2 : Nat) (z2 : Int) (hi2 : IsI w a2 z2)
    (hf : AddFit z1 z2) (hn1 : a1 ≠ b) (hn2 : a2 ≠ b) (hB : Below w0.heap.size w0 w) (hge : w0.heap.size ≤ b) :
    Calls Try.prog 39 #[.pointer (some ⟨b, 0, none⟩), .pointer (some ⟨a1, 0, none⟩), .pointer (some ⟨a2, 0, none⟩)] w fun e w' => e = .returned (.pointer (some ⟨b, 0, none⟩)) ∧ IsI w' b (z1 + z2) ∧ Kept w w' (fun k => k = b) ∧ Below w0.heap.size w0 w' := by
  rcases hf with ⟨h1, h2, h3⟩ | ⟨h1, h2, h3⟩
  · exact add.calls w0 w b x y hb a1 z1 hi1 a2 z2 hi2 h1 h2 h3 hn1 hn2 hB hge
  · have h := addSub.calls w0 w b x y hb a1 z1 hi1 a2 (-z2) (by rw [Int.neg_neg]; exact hi2) (by omega) h2 h3 hn1 hn2 hB hge
    have e : z1 - -z2 = z1 + z2 := by omega
    rw [e] at h
    exact h
theorem ne_type {w : World} {a b t t' : Nat} {cs cs' : Array Value} (h : w.heap[a]? = some (.cells cs t (0, 0))) (h' : w.heap[b]? = some (.cells cs' t' (0, 0))) (hne : t ≠ t') : a ≠ b := blk_ne h h' hne
theorem IsQ.ne41 {w : World} {a b : Nat} {n : Int} {d : Nat} {cs : Array Value} (h : IsQ w a n d) (h' : w.heap[b]? = some (.cells cs 41 (0, 0))) : a ≠ b := by
  obtain ⟨_, _, h1, _⟩ := h
  exact blk_ne h1 h' (by decide)
set_option maxHeartbeats 8000000 in
set_option maxRecDepth 100000 in
/-- impl's exactRat.Add -/
theorem ratAdd.calls (w0 w : World) (zb : Nat) (x0 x1 x2 : Value) (hz : w.heap[zb]? = some (.cells #[x0, x1, x2] 43 (0, 0))) (xb : Nat) (n1 : Int) (d1 : Nat) (hx : IsQ w xb n1 d1) (yb : Nat) (n2 : Int) (d2 : Nat) (hy : IsQ w yb n2 d2)
    (s1 : n1.natAbs < 4294967296) (s2 : n2.natAbs < 4294967296) (s3 : den d1 < 4294967296) (s4 : den d2 < 4294967296) (ha : AddFit (n1 * (den d2 : Int)) (n2 * (den d1 : Int))) (hf : Fit (n1 * (den d2 : Int) + n2 * (den d1 : Int)) (den d1 * den d2)) (hB : Below w0.heap.size w0 w) (hge : w0.heap.size ≤ zb) :
    Calls Try.prog 20 #[.pointer (some ⟨zb, 0, none⟩), .pointer (some ⟨xb, 0, none⟩), .pointer (some ⟨yb, 0, none⟩)] w fun e w' => e = .returned (.pointer (some ⟨zb, 0, none⟩)) ∧
      IsQ w' zb (lowN (n1 * (den d2 : Int) + n2 * (den d1 : Int)) (den d1 * den d2)) (lowD (n1 * (den d2 : Int) + n2 * (den d1 : Int)) (den d1 * den d2)) ∧ Kept w w' (fun k => k = zb) ∧ Below w0.heap.size w0 w' := by
  have HB := Aside0.mk hB
  have s3' : ((den d1 : Nat) : Int).natAbs < 4294967296 := by rw [Int.natAbs_natCast]; exact s3
  have s4' : ((den d2 : Nat) : Int).natAbs < 4294967296 := by rw [Int.natAbs_natCast]; exact s4
  have HS := Aside0.mk (And.intro s1 (And.intro s2 (And.intro s3' s4')))
  have HF := Aside0.mk hf
  have HA := Aside0.mk ha
  have X0 := Aside0.mk hx
  have Y0 := Aside0.mk hy
  have Z0 := Aside0.mk hz
  clear hB s1 s2 s3 s4 s3' s4' hf ha hx hy hz
  go_enter Try.func20, Try.ntmps20
  go_wp2_with fail
  refine (denI.calls w xb n1 d1 X0.out).mono ?_
  rintro e w1 ⟨p, rfl, hi, hge1, hb⟩
  have P1 := Aside0.mk hi
  have X1 := Aside0.mk (X0.out.below hb)
  have Y1 := Aside0.mk (Y0.out.below hb)
  have Z1 := Aside0.mk (blk_below Z0.out hb)
  have B1 := Aside0.mk hb
  clear hi hge1 hb X0 Y0 Z0
  go_wp2_with fail
  refine (denI.calls w1 yb n2 d2 Y1.out).mono ?_
  rintro e w2 ⟨q, rfl, hi, hge2, hb⟩
  have hb3 := below_alloc (below_alloc (Below.refl _ w2) (.cells #[.bool false, .slice none 0 0] 41 (0, 0))) (.cells #[.bool false, .slice none 0 0] 41 (0, 0))
  have s41 : (w2.alloc (.cells #[.bool false, .slice none 0 0] 41 (0, 0))).heap.size = w2.heap.size + 1 := World.size_alloc _ _
  have hA1 := blk_below (blk_new w2 (.cells #[.bool false, .slice none 0 0] 41 (0, 0))) (below_alloc (Below.refl _ _) (.cells #[.bool false, .slice none 0 0] 41 (0, 0)))
  have hA2 := blk_new (w2.alloc (.cells #[.bool false, .slice none 0 0] 41 (0, 0))) (.cells #[.bool false, .slice none 0 0] 41 (0, 0))
  rw [s41] at hA2
  have P2 := Aside0.mk ((P1.out.below hb).below hb3)
  have Q2 := Aside0.mk (hi.below hb3)
  have X2 := Aside0.mk ((X1.out.below hb).below hb3)
  have Y2 := Aside0.mk ((Y1.out.below hb).below hb3)
  have Z2 := Aside0.mk (blk_below (blk_below Z1.out hb) hb3)
  have B2 := Aside0.mk (below_then (below_then B1.out B1.out.size hb) (Nat.le_trans B1.out.size hb.size) hb3)
  have A1 := Aside0.mk hA1
  have A2 := Aside0.mk hA2
  have G2 := Aside0.mk (Nat.le_trans B1.out.size hb.size)
  have NP := Aside0.mk (show p < w2.heap.size ∧ q < w2.heap.size from ⟨Nat.lt_of_lt_of_le P1.out.lt hb.size, hi.lt⟩)
  clear hi hge2 hb hb3 s41 hA1 hA2 X1 Y1 Z1 B1 P1
  go_wp2_with fail
  refine (numI.calls _ xb n1 d1 X2.out).mono ?_
  rintro e w3 ⟨b1, rfl, hi, hge3, hb⟩
  have I3 := Aside0.mk hi
  have P3 := Aside0.mk (P2.out.below hb)
  have Q3 := Aside0.mk (Q2.out.below hb)
  have Y3 := Aside0.mk (Y2.out.below hb)
  have Z3 := Aside0.mk (blk_below Z2.out hb)
  have A13 := Aside0.mk (blk_below A1.out hb)
  have A23 := Aside0.mk (blk_below A2.out hb)
  have B3 := Aside0.mk (below_then B2.out B2.out.size hb)
  have N3 := Aside0.mk (show b1 ≠ w2.heap.size + 1 by rw [size41, size41] at hge3; omega)
  have M3 := Aside0.mk (show w.heap.size ≤ w2.heap.size + 1 by have := G2.out; omega)
  have Q31 := Aside0.mk (show q ≠ w2.heap.size + 1 by have := NP.out; omega)
  clear hi hge3 hb X2 Y2 Z2 A1 A2 B2 P2 Q2
  go_wp2_with fail
  refine (mul.calls w w3 (w2.heap.size + 1) _ _ A23.out b1 n1 I3.out q (den d2 : Int) Q3.out HS.out.1 HS.out.2.2.2 N3.out Q31.out B3.out M3.out).mono ?_
  rintro e w4 ⟨rfl, hi, hk, hb⟩
  have nd := noDg_one A23.out (by decide)
  have hb5 := below_alloc (Below.refl _ w4) (.cells #[.bool false, .slice none 0 0] 41 (0, 0))
  have I4 := Aside0.mk (hi.below hb5)
  have P4 := Aside0.mk ((P3.out.kept hk nd (show p ≠ w2.heap.size + 1 by have := NP.out; omega)).below hb5)
  have Q4 := Aside0.mk ((Q3.out.kept hk nd Q31.out).below hb5)
  have Y4 := Aside0.mk ((Y3.out.kept hk nd (Y3.out.ne41 A23.out)).below hb5)
  have Z4 := Aside0.mk (blk_below (blk_kept Z3.out hk (blk_ne Z3.out A23.out (by decide))) hb5)
  have A14 := Aside0.mk (blk_below (blk_kept A13.out hk (show w2.heap.size ≠ w2.heap.size + 1 by omega)) hb5)
  have A34 := Aside0.mk (blk_new w4 (.cells #[.bool false, .slice none 0 0] 41 (0, 0)))
  have B4 := Aside0.mk (below_then hb hb.size hb5)
  have L4 := Aside0.mk (show w2.heap.size + 1 < w4.heap.size from hi.lt)
  have G4 := Aside0.mk hb.size
  clear hi hk hb hb5 nd I3 P3 Q3 Y3 Z3 A13 A23 B3 N3 Q31
  go_wp2_with fail
  refine (numI.calls _ yb n2 d2 Y4.out).mono ?_
  rintro e w5 ⟨b2, rfl, hi, hge5, hb⟩
  have J5 := Aside0.mk hi
  have I5 := Aside0.mk (I4.out.below hb)
  have P5 := Aside0.mk (P4.out.below hb)
  have Q5 := Aside0.mk (Q4.out.below hb)
  have Z5 := Aside0.mk (blk_below Z4.out hb)
  have A15 := Aside0.mk (blk_below A14.out hb)
  have A35 := Aside0.mk (blk_below A34.out hb)
  have B5 := Aside0.mk (below_then B4.out B4.out.size hb)
  have N5 := Aside0.mk (show b2 ≠ w4.heap.size by rw [size41] at hge5; omega)
  have P51 := Aside0.mk (show p ≠ w4.heap.size by have := NP.out; have := L4.out; omega)
  have Q51 := Aside0.mk (show q ≠ w4.heap.size by have := NP.out; have := L4.out; omega)
  clear hi hge5 hb Y4 Z4 A14 A34 B4 I4 P4 Q4
  go_wp2_with fail
  refine (mul.calls w w5 w4.heap.size _ _ A35.out b2 n2 J5.out p (den d1 : Int) P5.out HS.out.2.1 HS.out.2.2.1 N5.out P51.out B5.out G4.out).mono ?_
  rintro e w6 ⟨rfl, hi, hk, hb⟩
  have nd := noDg_one A35.out (by decide)
  have J6 := Aside0.mk hi
  have I6 := Aside0.mk (I5.out.kept hk nd (show w2.heap.size + 1 ≠ w4.heap.size by have := L4.out; omega))
  have P6 := Aside0.mk (P5.out.kept hk nd P51.out)
  have Q6 := Aside0.mk (Q5.out.kept hk nd Q51.out)
  have Z6 := Aside0.mk (blk_kept Z5.out hk (blk_ne Z5.out A35.out (by decide)))
  have A16 := Aside0.mk (blk_kept A15.out hk (show w2.heap.size ≠ w4.heap.size by have := L4.out; omega))
  have B6 := Aside0.mk hb
  have N61 := Aside0.mk (show w2.heap.size + 1 ≠ w2.heap.size by omega)
  have N62 := Aside0.mk (show w4.heap.size ≠ w2.heap.size by have := L4.out; omega)
  clear hi hk hb nd J5 I5 P5 Q5 Z5 A15 A35 B5 N5
  go_wp2_with fail
  refine (addI.calls w w6 w2.heap.size _ _ A16.out (w2.heap.size + 1) (n1 * (den d2 : Int)) I6.out w4.heap.size (n2 * (den d1 : Int)) J6.out HA.out N61.out N62.out B6.out G2.out).mono ?_
  rintro e w7 ⟨rfl, hi, hk, hb⟩
  have nd := noDg_one A16.out (by decide)
  have hb8 := below_alloc (Below.refl _ w7) (.cells #[.bool false, .slice none 0 0] 41 (0, 0))
  have S7 := Aside0.mk (hi.below hb8)
  have P7 := Aside0.mk ((P6.out.kept hk nd (show p ≠ w2.heap.size by have := NP.out; omega)).below hb8)
  have Q7 := Aside0.mk ((Q6.out.kept hk nd (show q ≠ w2.heap.size by have := NP.out; omega)).below hb8)
  have Z7 := Aside0.mk (blk_below (blk_kept Z6.out hk (blk_ne Z6.out A16.out (by decide))) hb8)
  have A47 := Aside0.mk (blk_new w7 (.cells #[.bool false, .slice none 0 0] 41 (0, 0)))
  have B7 := Aside0.mk (below_then hb hb.size hb8)
  have G7 := Aside0.mk hb.size
  have L7 := Aside0.mk (show w2.heap.size < w7.heap.size from hi.lt)
  have P71 := Aside0.mk (show p ≠ w7.heap.size by have := NP.out; have := L7.out; omega)
  have Q71 := Aside0.mk (show q ≠ w7.heap.size by have := NP.out; have := L7.out; omega)
  clear hi hk hb hb8 nd I6 J6 P6 Q6 Z6 A16 B6
  go_wp2_with fail
  refine (mul.calls w _ w7.heap.size _ _ A47.out p (den d1 : Int) P7.out q (den d2 : Int) Q7.out HS.out.2.2.1 HS.out.2.2.2 P71.out Q71.out B7.out G7.out).mono ?_
  rintro e w8 ⟨rfl, hi, hk, hb⟩
  have nd := noDg_one A47.out (by decide)
  have e8 : (den d1 : Int) * (den d2 : Int) = ((den d1 * den d2 : Nat) : Int) := (Int.natCast_mul _ _).symm
  rw [e8] at hi
  have D8 := Aside0.mk hi
  have S8 := Aside0.mk (S7.out.kept hk nd (show w2.heap.size ≠ w7.heap.size by have := L7.out; omega))
  have Z8 := Aside0.mk (blk_kept Z7.out hk (blk_ne Z7.out A47.out (by decide)))
  have B8 := Aside0.mk hb
  have BB8 := Aside0.mk (below_then HB.out HB.out.size hb)
  have D0 := Aside0.mk (show den d1 * den d2 ≠ 0 from Nat.ne_of_gt (Nat.mul_pos (Nat.pos_of_ne_zero (den_ne d1)) (Nat.pos_of_ne_zero (den_ne d2))))
  clear hi hk hb nd e8 S7 P7 Q7 Z7 A47 B7
  go_wp2_with fail
  refine (setFrac.calls w0 w8 zb x0 x1 x2 Z8.out w2.heap.size _ S8.out w7.heap.size (den d1 * den d2) D8.out D0.out HF.out.1 HF.out.2.1 HF.out.2.2 BB8.out hge).mono ?_
  rintro e w9 ⟨rfl, hq, hk, hb⟩
  have HQ := Aside0.mk hq
  have HK := Aside0.mk ((Kept.of_below B8.out (fun k => k = zb)).then_ hk (fun k hk => Or.inl hk))
  have HBB := Aside0.mk hb
  clear hq hk hb
  go_wp2
  go_ret
  exact ⟨rfl, HQ.out, HK.out, HBB.out⟩
end Go.Proofs.Ytmkjkcfmjfeheaa.QFnExactMeanDeuce
