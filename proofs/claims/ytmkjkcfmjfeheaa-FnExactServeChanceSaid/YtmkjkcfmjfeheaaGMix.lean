/- impl.mix, walked, over the division of two digits by two. -/
import Derived.Test.YtmkjkcfmjfeheaaGRep
namespace Go.Proofs.Ytmkjkcfmjfeheaa.QFnExactMeanDeuce
open Go.RowKit Go.Proofs.YtmkjkcfmjfeheaaW.PrintWords Go.Proofs.YtmkjkcfmjfeheaaW.PrintLast Go.Proofs.YtmkjkcfmjfeheaaW.PrintMore
set_option linter.unusedVariables false
set_option linter.unusedSimpArgs false
theorem mul_lt64 {a b : Nat} (ha : a < 4294967296) (hb : b < 4294967296) : a * b < 18446744073709551616 := by
  have h1 : a * b ≤ 4294967295 * b := Nat.mul_le_mul_right b (by omega)
  omega
/-- small and not negative -/
structure Sm (x : Q2) : Prop where
  n0 : 0 ≤ x.1
  n1 : x.1 < 2147483648
  d1 : den x.2 < 2147483648
theorem Rep.sm {r : Q2} {U D : Int} (h : Rep r U D) (hD : D < 2147483648) : Sm r := ⟨h.n0, by have := h.den_le; have := h.num_le; omega, by have := h.den_le; omega⟩
theorem mulW.calls (D22 : Div22) (w0 w : World) (zb : Nat) (x0 x1 x2 : Value) (hz : w.heap[zb]? = some (.cells #[x0, x1, x2] 43 (0, 0))) (xb : Nat) (x : Q2) (hx : IsQ w xb x.1 x.2) (yb : Nat) (y : Q2) (hy : IsQ w yb y.1 y.2) (sx : Sm x) (sy : Sm y) (hB : Below w0.heap.size w0 w) (hge : w0.heap.size ≤ zb) :
    Calls Try.prog 32 #[.pointer (some ⟨zb, 0, none⟩), .pointer (some ⟨xb, 0, none⟩), .pointer (some ⟨yb, 0, none⟩)] w fun e w' => e = .returned (.pointer (some ⟨zb, 0, none⟩)) ∧ IsQ w' zb (rM x y).1 (rM x y).2 ∧ Kept w w' (fun k => k = zb) ∧ Below w0.heap.size w0 w' := by
  have a1 : x.1.natAbs < 4294967296 := by have := sx.n0; have := sx.n1; omega
  have a2 : y.1.natAbs < 4294967296 := by have := sy.n0; have := sy.n1; omega
  have a3 : den x.2 < 4294967296 := by have := sx.d1; omega
  have a4 : den y.2 < 4294967296 := by have := sy.d1; omega
  have h := ratMul.calls w0 w zb x0 x1 x2 hz xb x.1 x.2 hx yb y.1 y.2 hy a1 a2 a3 (by rw [Int.natAbs_natCast]; exact a4) (by have := den_pos y.2; omega)
    (by rw [Int.toNat_natCast]; exact ⟨by rw [Int.natAbs_mul]; exact mul_lt64 a1 a2, mul_lt64 a3 a4, Or.inr D22⟩) hB hge
  rw [Int.toNat_natCast] at h
  exact h
theorem addW.calls (D22 : Div22) (w0 w : World) (zb : Nat) (x0 x1 x2 : Value) (hz : w.heap[zb]? = some (.cells #[x0, x1, x2] 43 (0, 0))) (xb : Nat) (x : Q2) (hx : IsQ w xb x.1 x.2) (yb : Nat) (y : Q2) (hy : IsQ w yb y.1 y.2) (sx : Sm x) (sy : Sm y) (hB : Below w0.heap.size w0 w) (hge : w0.heap.size ≤ zb) :
    Calls Try.prog 20 #[.pointer (some ⟨zb, 0, none⟩), .pointer (some ⟨xb, 0, none⟩), .pointer (some ⟨yb, 0, none⟩)] w fun e w' => e = .returned (.pointer (some ⟨zb, 0, none⟩)) ∧ IsQ w' zb (rA x y).1 (rA x y).2 ∧ Kept w w' (fun k => k = zb) ∧ Below w0.heap.size w0 w' := by
  have c1 : 0 ≤ x.1 * (den y.2 : Int) := Int.mul_nonneg sx.n0 (by omega)
  have c2 : 0 ≤ y.1 * (den x.2 : Int) := Int.mul_nonneg sy.n0 (by omega)
  have c3 : x.1 * (den y.2 : Int) ≤ 2147483647 * (den y.2 : Int) := Int.mul_le_mul_of_nonneg_right (by have := sx.n1; omega) (by omega)
  have c4 : y.1 * (den x.2 : Int) ≤ 2147483647 * (den x.2 : Int) := Int.mul_le_mul_of_nonneg_right (by have := sy.n1; omega) (by omega)
  have k1 := sx.d1
  have k2 := sy.d1
  exact ratAdd.calls w0 w zb x0 x1 x2 hz xb x.1 x.2 hx yb y.1 y.2 hy (by have := sx.n0; have := sx.n1; omega) (by have := sy.n0; have := sy.n1; omega) (by omega) (by omega)
    (Or.inl ⟨by omega, by omega, by rw [decide_eq_false (by omega), decide_eq_false (by omega)]⟩) ⟨by omega, mul_lt64 (by omega) (by omega), Or.inr D22⟩ hB hge
theorem restW.calls (D22 : Div22) (w0 w : World) (zb : Nat) (x0 x1 x2 : Value) (hz : w.heap[zb]? = some (.cells #[x0, x1, x2] 43 (0, 0))) (xb : Nat) (hx : IsQ w xb (rN 1 1).1 (rN 1 1).2) (yb : Nat) (y : Q2) (hy : IsQ w yb y.1 y.2) (sy : Sm y) (hle : y.1 ≤ (den y.2 : Int)) (hB : Below w0.heap.size w0 w) (hge : w0.heap.size ≤ zb) :
    Calls Try.prog 31 #[.pointer (some ⟨zb, 0, none⟩), .pointer (some ⟨xb, 0, none⟩), .pointer (some ⟨yb, 0, none⟩)] w fun e w' => e = .returned (.pointer (some ⟨zb, 0, none⟩)) ∧ IsQ w' zb (rS (rN 1 1) y).1 (rS (rN 1 1) y).2 ∧ Kept w w' (fun k => k = zb) ∧ Below w0.heap.size w0 w' := by
  have k2 := sy.d1
  have k3 := sy.n0
  have k4 := sy.n1
  have e1 : ((rN 1 1).1 * (den y.2 : Int)) = (den y.2 : Int) := by rw [rN_one]; exact Int.one_mul _
  have e2 : (-y.1 * (den (rN 1 1).2 : Int)) = -y.1 := by rw [rN_one]; exact Int.mul_one _
  have e3 : den (rN 1 1).2 = 1 := by rw [rN_one]; exact den_one
  have e4 : (rN 1 1).1 = 1 := by rw [rN_one]
  refine ratSub.calls w0 w zb x0 x1 x2 hz xb (rN 1 1).1 (rN 1 1).2 hx yb y.1 y.2 hy (by rw [e4]; decide) (by omega) (by rw [e3]; decide) (by omega) ?_ ?_ hB hge
  · rw [e1, e2]
    by_cases h : y.1 = 0
    · exact Or.inl ⟨by omega, by omega, by rw [h, decide_eq_false (by omega)]; rfl⟩
    · exact Or.inr ⟨by omega, by omega, by omega⟩
  · rw [e1, e2, e3]
    exact ⟨by omega, by omega, Or.inr D22⟩
set_option maxHeartbeats 8000000 in
set_option maxRecDepth 100000 in
theorem mix.calls (D22 : Div22) (w : World) (pb xb yb : Nat) (p x y : Q2) (hp : IsQ w pb p.1 p.2) (hx : IsQ w xb x.1 x.2) (hy : IsQ w yb y.1 y.2) {u d U U' D : Int} (rp : Rep p u d) (rx : Rep x U D) (ry : Rep y U' D) (hd : d ≤ 10) (hD : D ≤ 1000000) :
    Calls Try.prog 29 #[.pointer (some ⟨pb, 0, none⟩), .pointer (some ⟨xb, 0, none⟩), .pointer (some ⟨yb, 0, none⟩)] w fun e w' => ∃ b, e = .returned (.pointer (some ⟨b, 0, none⟩)) ∧ IsQ w' b (mixV p x y).1 (mixV p x y).2 ∧ w.heap.size ≤ b ∧ Below w.heap.size w w' := by
  have hdD : d * D ≤ 10000000 := by
    have h1 : d * D ≤ 10 * D := Int.mul_le_mul_of_nonneg_right hd (Int.le_of_lt rx.d0)
    omega
  have sp := rp.sm (by omega)
  have sx := rx.sm (by omega)
  have sy := ry.sm (by omega)
  have so := (rp.mul rx).sm (by omega)
  have sr := (rp.rest).sm (by omega)
  have sr2 := (rp.rest.mul ry).sm (by omega)
  have hb0 := below_alloc (Below.refl _ w) (.cells #[.bool false, .slice none 0 0, .slice none 0 0] 43 (0, 0))
  have P0 := Aside0.mk (hp.below hb0)
  have X0 := Aside0.mk (hx.below hb0)
  have Y0 := Aside0.mk (hy.below hb0)
  have A0 := Aside0.mk (blk_new w (.cells #[.bool false, .slice none 0 0, .slice none 0 0] 43 (0, 0)))
  have B0 := Aside0.mk hb0
  have NP := Aside0.mk (And.intro hp.lt (And.intro hx.lt hy.lt))
  have HS := Aside0.mk (And.intro sp (And.intro sx (And.intro sy (And.intro so (And.intro sr sr2)))))
  have HL := Aside0.mk rp.num_le
  clear hb0 hp hx hy rp rx ry hd hD hdD sp sx sy so sr sr2
  go_enter Try.func29, Try.ntmps29
  go_wp2_with fail
  refine (mulW.calls D22 w _ w.heap.size _ _ _ A0.out pb p P0.out xb x X0.out HS.out.1 HS.out.2.1 B0.out (Nat.le_refl _)).mono ?_
  rintro e w1 ⟨rfl, hq, hk, hb⟩
  have nd := noDg_one A0.out (by decide)
  have hb1 := below_alloc (Below.refl _ w1) (.cells #[.bool false, .slice none 0 0, .slice none 0 0] 43 (0, 0))
  have O1 := Aside0.mk (hq.below hb1)
  have P1 := Aside0.mk ((P0.out.kept hk nd (show pb ≠ w.heap.size by have := NP.out; omega)).below hb1)
  have Y1 := Aside0.mk ((Y0.out.kept hk nd (show yb ≠ w.heap.size by have := NP.out; omega)).below hb1)
  have A1 := Aside0.mk (blk_new w1 (.cells #[.bool false, .slice none 0 0, .slice none 0 0] 43 (0, 0)))
  have B1 := Aside0.mk (below_then hb hb.size hb1)
  have G1 := Aside0.mk (And.intro hb.size hq.lt)
  clear hq hk hb hb1 nd P0 X0 Y0 A0 B0
  go_wp2_with fail
  refine (newQ.calls _ 1 1 (by decide) (by decide) (by decide) (by decide)).mono ?_
  rintro e w2 ⟨o, rfl, hq, hg, hb⟩
  have E2 := Aside0.mk hq
  have O2 := Aside0.mk (O1.out.below hb)
  have P2 := Aside0.mk (P1.out.below hb)
  have Y2 := Aside0.mk (Y1.out.below hb)
  have A2 := Aside0.mk (blk_below A1.out hb)
  have B2 := Aside0.mk (below_then B1.out B1.out.size hb)
  clear hq hg hb O1 P1 Y1 A1 B1
  go_wp2_with fail
  refine (restW.calls D22 w w2 w1.heap.size _ _ _ A2.out o E2.out pb p P2.out HS.out.1 HL.out B2.out G1.out.1).mono ?_
  rintro e w3 ⟨rfl, hq, hk, hb⟩
  have nd := noDg_one A2.out (by decide)
  have R3 := Aside0.mk hq
  have O3 := Aside0.mk (O2.out.kept hk nd (show w.heap.size ≠ w1.heap.size by have := G1.out.2; omega))
  have Y3 := Aside0.mk (Y2.out.kept hk nd (show yb ≠ w1.heap.size by have := NP.out; have := G1.out; omega))
  have B3 := Aside0.mk hb
  obtain ⟨z0, z1, z2, hz3⟩ := hq.block
  have Z3 := Aside0.mk hz3
  clear hq hk hb nd O2 P2 Y2 A2 B2 E2 hz3
  go_wp2_with fail
  refine (mulW.calls D22 w w3 w1.heap.size z0 z1 z2 Z3.out w1.heap.size (rS (rN 1 1) p) R3.out yb y Y3.out HS.out.2.2.2.2.1 HS.out.2.2.1 B3.out G1.out.1).mono ?_
  rintro e w4 ⟨rfl, hq, hk, hb⟩
  have nd := noDg_one Z3.out (by decide)
  have R4 := Aside0.mk hq
  have O4 := Aside0.mk (O3.out.kept hk nd (show w.heap.size ≠ w1.heap.size by have := G1.out.2; omega))
  have B4 := Aside0.mk hb
  obtain ⟨t0, t1, t2, hz4⟩ := O4.out.block
  have Z4 := Aside0.mk hz4
  clear hq hk hb nd O3 Y3 B3 R3 Z3 hz4
  go_wp2_with fail
  refine (addW.calls D22 w w4 w.heap.size t0 t1 t2 Z4.out w.heap.size (rM p x) O4.out w1.heap.size (rM (rS (rN 1 1) p) y) R4.out HS.out.2.2.2.1 HS.out.2.2.2.2.2 B4.out (Nat.le_refl _)).mono ?_
  rintro e w5 ⟨rfl, hq, hk, hb⟩
  have Q5 := Aside0.mk hq
  have B5 := Aside0.mk hb
  clear hq hk hb
  go_wp2
  go_ret
  exact ⟨_, rfl, Q5.out, Nat.le_refl _, B5.out⟩
end Go.Proofs.Ytmkjkcfmjfeheaa.QFnExactMeanDeuce
