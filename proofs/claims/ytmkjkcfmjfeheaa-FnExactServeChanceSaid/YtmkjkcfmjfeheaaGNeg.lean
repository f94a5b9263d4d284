/- impl's exactRat.Set, Neg and Sub, walked. -/
import Derived.Test.YtmkjkcfmjfeheaaGRat
namespace Go.Proofs.Ytmkjkcfmjfeheaa.QFnExactMeanDeuce
open Go.RowKit Go.Proofs.YtmkjkcfmjfeheaaW.PrintWords Go.Proofs.YtmkjkcfmjfeheaaW.PrintLast Go.Proofs.YtmkjkcfmjfeheaaW.PrintMore
set_option linter.unusedVariables false
set_option linter.unusedSimpArgs false
set_option maxHeartbeats 8000000 in
set_option maxRecDepth 100000 in
theorem ratSet.calls (w0 w : World) (zb : Nat) (x0 x1 x2 : Value) (hz : w.heap[zb]? = some (.cells #[x0, x1, x2] 43 (0, 0))) (xb : Nat) (n : Int) (d : Nat) (hx : IsQ w xb n d) (hne : xb ≠ zb) (hB : Below w0.heap.size w0 w) (hge : w0.heap.size ≤ zb) :
    Calls Try.prog 48 #[.pointer (some ⟨zb, 0, none⟩), .pointer (some ⟨xb, 0, none⟩)] w fun e w' => e = .returned (.pointer (some ⟨zb, 0, none⟩)) ∧ IsQ w' zb n d ∧ Kept w w' (fun k => k = zb) ∧ Below w0.heap.size w0 w' := by
  obtain ⟨v, u, c0, c1, c2, hv, hu⟩ := hx.cells
  obtain ⟨A, ca, rfl, -, -⟩ := hv.len rfl
  obtain ⟨A', ca', rfl, -, -⟩ := hu.len rfl
  have z0 : w.cell? ⟨zb, 0, none⟩ = some x0 := (blk_cell hz 0).trans rfl
  have z1 : w.cell? ⟨zb, 1, none⟩ = some x1 := (blk_cell hz 1).trans rfl
  have z2 : w.cell? ⟨zb, 2, none⟩ = some x2 := (blk_cell hz 2).trans rfl
  have f0 := blk_frozen hz 0
  have f1 := blk_frozen hz 1
  have f2 := blk_frozen hz 2
  obtain ⟨l, hl⟩ : ∃ l, l = decide (n < 0) := ⟨_, rfl⟩
  rw [← hl] at c0
  have HV := Aside0.mk hv
  have HU := Aside0.mk hu
  have HZ := Aside0.mk hz
  have HB := Aside0.mk hB
  have HL := Aside0.mk hl
  have hne' : zb ≠ xb := fun e => hne e.symm
  clear hv hu hz hB hl hx
  go_enter Try.func48, Try.ntmps48
  go_wp2
  go_region
  go_wp2
  go_ret
  have k1 := (Kept.refl w (fun k => k = zb)).setCell (p := ⟨zb, 0, none⟩) (Or.inl rfl) (.bool l)
  have k2 := k1.setCell (p := ⟨zb, 1, none⟩) (Or.inl rfl) (.slice A (dig n.natAbs).length ca)
  have k3 := k2.setCell (p := ⟨zb, 2, none⟩) (Or.inl rfl) (.slice A' (dig d).length ca')
  have b1 := (HB.out.setCell (p := ⟨zb, 0, none⟩) hge (.bool l)).setCell (p := ⟨zb, 1, none⟩) hge (.slice A (dig n.natAbs).length ca)
  have b2 := b1.setCell (p := ⟨zb, 2, none⟩) hge (.slice A' (dig d).length ca')
  have nd := noDg_one HZ.out (by decide)
  have h1 := blk_set (blk_set (blk_set HZ.out 0 (.bool l)) 1 (.slice A (dig n.natAbs).length ca)) 2 (.slice A' (dig d).length ca')
  refine ⟨rfl, ⟨.slice A (dig n.natAbs).length ca, .slice A' (dig d).length ca', ?_, HV.out.kept k3 nd, HU.out.kept k3 nd⟩, k3, below_drew1 b2⟩
  rw [← HL.out]
  simp at h1
  exact h1
set_option maxHeartbeats 8000000 in
set_option maxRecDepth 100000 in
theorem ratNeg.calls (w0 w : World) (zb : Nat) (x0 x1 x2 : Value) (hz : w.heap[zb]? = some (.cells #[x0, x1, x2] 43 (0, 0))) (xb : Nat) (n : Int) (d : Nat) (hx : IsQ w xb n d) (hne : xb ≠ zb) (hB : Below w0.heap.size w0 w) (hge : w0.heap.size ≤ zb) :
    Calls Try.prog 40 #[.pointer (some ⟨zb, 0, none⟩), .pointer (some ⟨xb, 0, none⟩)] w fun e w' => e = .returned (.pointer (some ⟨zb, 0, none⟩)) ∧ IsQ w' zb (-n) d ∧ Kept w w' (fun k => k = zb) ∧ Below w0.heap.size w0 w' := by
  have HX := Aside0.mk hx
  have HZ := Aside0.mk hz
  have HB := Aside0.mk hB
  clear hx hz hB
  go_enter Try.func40, Try.ntmps40
  go_wp2_with fail
  refine (ratSet.calls w0 w zb x0 x1 x2 HZ.out xb n d HX.out hne HB.out hge).mono ?_
  rintro e w1 ⟨rfl, hq, hk, hb⟩
  have nd := noDg_one HZ.out (by decide)
  have Q1 := Aside0.mk hq
  have X1 := Aside0.mk (HX.out.kept hk nd hne)
  have K1 := Aside0.mk hk
  have B1 := Aside0.mk hb
  clear hq hk hb nd
  obtain ⟨v, u, c0, c1, c2, hv, hu⟩ := X1.out.cells
  obtain ⟨A, ca, rfl, -, -⟩ := hv.len rfl
  obtain ⟨l, hl⟩ : ∃ l, l = decide (n < 0) := ⟨_, rfl⟩
  rw [← hl] at c0
  have HL := Aside0.mk hl
  have HV := Aside0.mk hv
  obtain ⟨v', u', hzz, hv', hu'⟩ := Q1.out
  have ZZ := Aside0.mk hzz
  have HU' := Aside0.mk hu'
  clear hl hv hu c2 hzz hv' hu'
  go_wp2
  go_still_tail 14, (by kernel_rfl)
  change wpList _ _ _ _ _ w1.drew
  go_wp2_with fail
  refine (put.calls w0 w1.drew zb 43 _ _ [u'] (show w1.drew.heap[zb]? = _ from ZZ.out) (!l) (.slice A (dig n.natAbs).length ca) (dig n.natAbs) (HV.out.below (below_drew1 (Below.refl _ w1))) (inR_dig _) (by decide) (below_drew1 B1.out) hge).mono ?_
  rintro e w2 ⟨rfl, v2, hb2, hd2, hk2, hB2, hs2, -⟩
  have nd := noDg_one (show w1.drew.heap[zb]? = _ from ZZ.out) (by decide)
  have H2 := Aside0.mk hb2
  have D2 := Aside0.mk hd2
  have U2 := Aside0.mk ((HU'.out.below (below_drew1 (Below.refl _ w1))).kept hk2 nd)
  have K2 := Aside0.mk (K1.out.then_ (show Kept w1 w2 (fun k => k = zb) from hk2) (fun k hk => Or.inl hk))
  have B2 := Aside0.mk hB2
  clear hb2 hd2 hk2 hB2 hs2 nd c0 c1
  go_wp2
  go_ret
  have e1 : (vl (dig n.natAbs)).toNat = n.natAbs := by rw [vl_dig, Int.toNat_natCast]
  have d2 := D2.out
  rw [e1] at d2
  have hs : (!l && decide (vl (dig n.natAbs) ≠ 0)) = decide (-n < 0) := by
    rw [HL.out, vl_dig]
    by_cases h : n < 0
    · rw [decide_eq_true h, decide_eq_false (show ¬ (-n < 0) by omega)]; rfl
    · rw [decide_eq_false h]
      by_cases h0 : n = 0
      · subst h0; rfl
      · rw [decide_eq_true (show ((n.natAbs : Nat) : Int) ≠ 0 by omega), decide_eq_true (show -n < 0 by omega)]; rfl
  refine ⟨rfl, ⟨v2, u', ?_, by rw [Int.natAbs_neg]; exact d2, U2.out⟩, K2.out, B2.out⟩
  rw [← hs]
  exact H2.out
set_option maxHeartbeats 8000000 in
set_option maxRecDepth 100000 in
/-- impl's exactRat.Sub -/
theorem ratSub.calls (w0 w : World) (zb : Nat) (x0 x1 x2 : Value) (hz : w.heap[zb]? = some (.cells #[x0, x1, x2] 43 (0, 0))) (xb : Nat) (n1 : Int) (d1 : Nat) (hx : IsQ w xb n1 d1) (yb : Nat) (n2 : Int) (d2 : Nat) (hy : IsQ w yb n2 d2)
    (s1 : n1.natAbs < 4294967296) (s2 : n2.natAbs < 4294967296) (s3 : den d1 < 4294967296) (s4 : den d2 < 4294967296) (ha : AddFit (n1 * (den d2 : Int)) (-n2 * (den d1 : Int))) (hf : Fit (n1 * (den d2 : Int) + -n2 * (den d1 : Int)) (den d1 * den d2)) (hB : Below w0.heap.size w0 w) (hge : w0.heap.size ≤ zb) :
    Calls Try.prog 31 #[.pointer (some ⟨zb, 0, none⟩), .pointer (some ⟨xb, 0, none⟩), .pointer (some ⟨yb, 0, none⟩)] w fun e w' => e = .returned (.pointer (some ⟨zb, 0, none⟩)) ∧
      IsQ w' zb (lowN (n1 * (den d2 : Int) + -n2 * (den d1 : Int)) (den d1 * den d2)) (lowD (n1 * (den d2 : Int) + -n2 * (den d1 : Int)) (den d1 * den d2)) ∧ Kept w w' (fun k => k = zb) ∧ Below w0.heap.size w0 w' := by
  have hb0 := below_alloc (Below.refl _ w) (.cells #[.bool false, .slice none 0 0, .slice none 0 0] 43 (0, 0))
  have X0 := Aside0.mk (hx.below hb0)
  have Y0 := Aside0.mk (hy.below hb0)
  have Z0 := Aside0.mk (blk_below hz hb0)
  have A0 := Aside0.mk (blk_new w (.cells #[.bool false, .slice none 0 0, .slice none 0 0] 43 (0, 0)))
  have NX := Aside0.mk (show xb ≠ w.heap.size by have := hx.lt; omega)
  have NY := Aside0.mk (show yb ≠ w.heap.size by have := hy.lt; omega)
  have NZ := Aside0.mk (show zb ≠ w.heap.size by have := blk_lt hz; omega)
  have HB := Aside0.mk hB
  have HB0 := Aside0.mk hb0
  have HS := Aside0.mk (And.intro s1 (And.intro (show (-n2).natAbs < 4294967296 by rw [Int.natAbs_neg]; exact s2) (And.intro s3 s4)))
  have HF := Aside0.mk hf
  have HA := Aside0.mk ha
  clear hb0 hx hy hz hB s1 s2 s3 s4 hf ha
  go_enter Try.func31, Try.ntmps31
  go_wp2_with fail
  refine (ratNeg.calls w _ w.heap.size _ _ _ A0.out yb n2 d2 Y0.out NY.out HB0.out (Nat.le_refl _)).mono ?_
  rintro e w1 ⟨rfl, hq, hk, hb⟩
  have nd := noDg_one A0.out (by decide)
  have Q1 := Aside0.mk hq
  have X1 := Aside0.mk (X0.out.kept hk nd NX.out)
  have Z1 := Aside0.mk (blk_kept Z0.out hk NZ.out)
  have B1 := Aside0.mk hb
  have BB1 := Aside0.mk (below_then HB.out HB.out.size hb)
  clear hq hk hb nd X0 Y0 Z0 A0
  go_wp2_with fail
  refine (ratAdd.calls w0 w1 zb x0 x1 x2 Z1.out xb n1 d1 X1.out w.heap.size (-n2) d2 Q1.out HS.out.1 HS.out.2.1 HS.out.2.2.1 HS.out.2.2.2 HA.out HF.out BB1.out hge).mono ?_
  rintro e w2 ⟨rfl, hq, hk, hb⟩
  have Q2 := Aside0.mk hq
  have K2 := Aside0.mk ((Kept.of_below B1.out (fun k => k = zb)).then_ hk (fun k hk => Or.inl hk))
  have B2 := Aside0.mk hb
  clear hq hk hb
  go_wp2
  go_ret
  exact ⟨rfl, Q2.out, K2.out, B2.out⟩
end Go.Proofs.Ytmkjkcfmjfeheaa.QFnExactMeanDeuce
