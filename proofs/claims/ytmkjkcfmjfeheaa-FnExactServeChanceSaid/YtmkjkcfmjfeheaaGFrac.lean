/- impl.divideDigits as division of numbers; exactRat.SetFrac, walked. -/
import Derived.Test.YtmkjkcfmjfeheaaGDiv
import Derived.Test.YtmkjkcfmjfeheaaGMul
import Derived.StillTailTactics
namespace Go.Proofs.Ytmkjkcfmjfeheaa.QFnExactMeanDeuce
open Go.RowKit Go.Proofs.YtmkjkcfmjfeheaaW.PrintWords Go.Proofs.YtmkjkcfmjfeheaaW.PrintLast Go.Proofs.YtmkjkcfmjfeheaaW.PrintMore
set_option linter.unusedVariables false
set_option linter.unusedSimpArgs false
/-- two digits divided by two -/
def Div22 : Prop := ∀ (w : World) (A0 A1 : Option Addr) (c0 c1 : Nat) (a0 a1 b0 b1 : Int), Kd.C (Kd.int .u32) w A0 2 [a0, a1] → 2 ≤ c0 → Kd.C (Kd.int .u32) w A1 2 [b0, b1] → 2 ≤ c1 → inR [a0, a1] → inR [b0, b1] → 0 < b1 →
  Calls Try.prog 43 #[.slice A0 2 c0, .slice A1 2 c1] w fun e w' => ∃ vq vr ds rs, e = .returned (.tuple #[vq, vr]) ∧ Dg w' vq ds ∧ Dg w' vr rs ∧ inR ds ∧ inR rs ∧ vl ds = vl [a0, a1] / vl [b0, b1] ∧ vl rs = vl [a0, a1] % vl [b0, b1] ∧ Below w.heap.size w w'
theorem Dg.len {w : World} {v : Value} {ds : List Int} {n : Nat} (h : Dg w v ds) (hn : ds.length = n) : ∃ A c, v = .slice A n c ∧ n ≤ c ∧ Kd.C (Kd.int .u32) w A n ds := by
  subst hn
  obtain ⟨A, c, h1, h2, h3, -⟩ := h
  exact ⟨A, c, h1, h2, h3⟩
theorem div.calls (w : World) (x y : Nat) (va vb : Value) (hva : Dg w va (dig x)) (hvb : Dg w vb (dig y)) (hx : x < 18446744073709551616) (hy : y < 18446744073709551616) (hy0 : y ≠ 0) (h : (x < 4294967296 ∧ y < 4294967296) ∨ Div22) :
    Calls Try.prog 43 #[va, vb] w fun e w' => ∃ vq vr ds rs, e = .returned (.tuple #[vq, vr]) ∧ Dg w' vq ds ∧ Dg w' vr rs ∧ inR ds ∧ inR rs ∧ vl ds = ((x / y : Nat) : Int) ∧ vl rs = ((x % y : Nat) : Int) ∧ Below w.heap.size w w' := by
  have hvx := vl_dig x
  have hvy := vl_dig y
  have hrx := inR_dig x
  have hry := inR_dig y
  have less : x < y → (dig x).length < (dig y).length → Calls Try.prog 43 #[va, vb] w fun e w' => ∃ vq vr ds rs, e = .returned (.tuple #[vq, vr]) ∧ Dg w' vq ds ∧ Dg w' vr rs ∧ inR ds ∧ inR rs ∧ vl ds = ((x / y : Nat) : Int) ∧ vl rs = ((x % y : Nat) : Int) ∧ Below w.heap.size w w' := by
    intro hxy hl
    obtain ⟨A0, c0, rfl, hc0, hC0⟩ := hva.len rfl
    obtain ⟨A1, c1, rfl, hc1, hC1⟩ := hvb.len rfl
    refine (divLess.calls w A0 _ c0 A1 _ c1 hl).mono ?_
    rintro e w' ⟨rfl, rfl⟩
    refine ⟨_, _, [], dig x, rfl, Dg.nil _, hva, inR_nil, hrx, ?_, ?_, Below.refl _ _⟩
    · rw [Nat.div_eq_of_lt hxy]; rfl
    · rw [Nat.mod_eq_of_lt hxy, hvx]
  have one : ∀ (M : Nat) (b : Int), (dig x).length = M + 1 → M ≤ 100 → dig y = [b] → 0 < b → b < 4294967296 → Calls Try.prog 43 #[va, vb] w fun e w' => ∃ vq vr ds rs, e = .returned (.tuple #[vq, vr]) ∧ Dg w' vq ds ∧ Dg w' vr rs ∧ inR ds ∧ inR rs ∧ vl ds = ((x / y : Nat) : Int) ∧ vl rs = ((x % y : Nat) : Int) ∧ Below w.heap.size w w' := by
    intro M b hM hM1 hyb hb hb1
    obtain ⟨A0, c0, rfl, hc0, hC0⟩ := hva.len hM
    rw [hyb] at hvb
    obtain ⟨A1, c1, rfl, hc1, hC1⟩ := hvb.len (n := 1) rfl
    have hby : (y : Int) = b := by rw [← hvy, hyb]; simp [vl]
    refine (divOne.calls w A0 A1 c0 c1 M (dig x) b hM hC0 hc0 hC1 hc1 hM1 hrx hb hb1).mono ?_
    rintro e w' ⟨vq, vr, ds, r, rfl, h1, h2, h3, h4, h5, h6, h7⟩
    refine ⟨vq, vr, ds, [r], rfl, h1, h2, h3, h4, ?_, ?_, h7⟩
    · rw [h5, hvx, ← hby]; rfl
    · simp only [vl]; rw [h6, hvx, ← hby]; simp
  rcases dig_cases x hx with ⟨ex, rfl⟩ | ⟨a, ex, h1, h2, h3⟩ | ⟨a0, a1, ex, h1, h2, h3, h4, h5⟩
  · have hl : 0 < (dig y).length := by
      have := (dig_len_zero y)
      omega
    exact less (by omega) (by rw [dig_zero]; exact hl)
  · rcases dig_cases y hy with ⟨ey, rfl⟩ | ⟨b, ey, k1, k2, k3⟩ | ⟨b0, b1, ey, k1, k2, k3, k4, k5⟩
    · exact absurd rfl hy0
    · exact one 0 b (by rw [ex]; rfl) (by decide) ey k2 k3
    · exact less (by omega) (by rw [ex, ey]; simp)
  · rcases dig_cases y hy with ⟨ey, rfl⟩ | ⟨b, ey, k1, k2, k3⟩ | ⟨b0, b1, ey, k1, k2, k3, k4, k5⟩
    · exact absurd rfl hy0
    · exact one 1 b (by rw [ex]; rfl) (by decide) ey k2 k3
    · rcases h with h | h
      · omega
      · rw [ex] at hva hvx hrx
        rw [ey] at hvb hvy hry
        obtain ⟨A0, c0, rfl, hc0, hC0⟩ := hva.len (n := 2) rfl
        obtain ⟨A1, c1, rfl, hc1, hC1⟩ := hvb.len (n := 2) rfl
        refine (h w A0 A1 c0 c1 a0 a1 b0 b1 hC0 hc0 hC1 hc1 hrx hry k4).mono ?_
        rintro e w' ⟨vq, vr, ds, rs, rfl, h1, h2, h3, h4, h5, h6, h7⟩
        refine ⟨vq, vr, ds, rs, rfl, h1, h2, h3, h4, ?_, ?_, h7⟩
        · rw [h5, hvx, hvy]; rfl
        · rw [h6, hvx, hvy]; rfl
def gcdN (n : Int) (d : Nat) : Nat := Nat.gcd n.natAbs d
def lowN (n : Int) (d : Nat) : Int := if n < 0 then -((n.natAbs / gcdN n d : Nat) : Int) else ((n.natAbs / gcdN n d : Nat) : Int)
def lowD (n : Int) (d : Nat) : Nat := d / gcdN n d
theorem gcdN_pos (n : Int) (d : Nat) (hd : d ≠ 0) : 0 < gcdN n d := Nat.gcd_pos_of_pos_right _ (by omega)
theorem lowN_abs (n : Int) (d : Nat) : (lowN n d).natAbs = n.natAbs / gcdN n d := by
  unfold lowN
  obtain ⟨k, hk⟩ : ∃ k : Nat, n.natAbs / gcdN n d = k := ⟨_, rfl⟩
  rw [hk]
  split <;> omega
theorem lowN_sign (n : Int) (d : Nat) : decide (lowN n d < 0) = (decide (n < 0) && decide (((n.natAbs / gcdN n d : Nat) : Int) ≠ 0)) := by
  unfold lowN
  obtain ⟨k, hk⟩ : ∃ k : Nat, n.natAbs / gcdN n d = k := ⟨_, rfl⟩
  rw [hk]
  by_cases h : n < 0
  · rw [if_pos h, decide_eq_true h, Bool.true_and]
    by_cases h0 : k = 0
    · rw [h0]; rfl
    · rw [decide_eq_true (by omega), decide_eq_true (by omega)]
  · rw [if_neg h, decide_eq_false h, Bool.false_and]
    exact decide_eq_false (by omega)
set_option maxHeartbeats 8000000 in
set_option maxRecDepth 100000 in
theorem setFrac.calls (w0 w : World) (zb : Nat) (x0 x1 x2 : Value) (hz : w.heap[zb]? = some (.cells #[x0, x1, x2] 43 (0, 0))) (nb : Nat) (n : Int) (hn : IsI w nb n) (db d : Nat) (hd : IsI w db (d : Int)) (hd0 : d ≠ 0)
    (hs1 : n.natAbs < 18446744073709551616) (hs2 : d < 18446744073709551616) (hs : (n.natAbs < 4294967296 ∧ d < 4294967296) ∨ Div22) (hB : Below w0.heap.size w0 w) (hge : w0.heap.size ≤ zb) :
    Calls Try.prog 36 #[.pointer (some ⟨zb, 0, none⟩), .pointer (some ⟨nb, 0, none⟩), .pointer (some ⟨db, 0, none⟩)] w fun e w' => e = .returned (.pointer (some ⟨zb, 0, none⟩)) ∧ IsQ w' zb (lowN n d) (lowD n d) ∧ Kept w w' (fun k => k = zb) ∧ Below w0.heap.size w0 w' := by
  obtain ⟨vn, cn0, cn1, hdn⟩ := hn.cells
  obtain ⟨vd, cd0, cd1, hdd⟩ := hd.cells
  rw [decide_eq_false (by omega : ¬ ((d : Int) < 0))] at cd0
  rw [Int.natAbs_natCast] at hdd
  obtain ⟨ln, hln⟩ : ∃ l, l = decide (n < 0) := ⟨_, rfl⟩
  rw [← hln] at cn0
  have HB := Aside0.mk hB
  have HZ := Aside0.mk hz
  have HDN := Aside0.mk hdn
  have HDD := Aside0.mk hdd
  have HLN := Aside0.mk hln
  have HS := Aside0.mk hs
  have HSS := Aside0.mk (And.intro hs1 hs2)
  have HD0 := Aside0.mk hd0
  have CN0 := Aside0.mk cn0
  have CN1 := Aside0.mk cn1
  have CD0 := Aside0.mk cd0
  have CD1 := Aside0.mk cd1
  clear hB hz hdn hdd hln hs hn hd hs1 hs2
  go_enter Try.func36, Try.ntmps36
  go_wp2
  go_region
  clear cn0 cn1 cd0 cd1
  have CN0 := Aside0.mk (show w.drew.cell? _ = _ from CN0.out)
  have CN1 := Aside0.mk (show w.drew.cell? _ = _ from CN1.out)
  have CD0 := Aside0.mk (show w.drew.cell? _ = _ from CD0.out)
  have CD1 := Aside0.mk (show w.drew.cell? _ = _ from CD1.out)
  have HDN := Aside0.mk (HDN.out.below (below_drew1 (Below.refl _ w)))
  have HDD := Aside0.mk (HDD.out.below (below_drew1 (Below.refl _ w)))
  have HZ := Aside0.mk (show w.drew.heap[zb]? = _ from HZ.out)
  have HB := Aside0.mk (below_drew1 HB.out)
  have HKd := Aside0.mk ((Kept.refl w (fun k => k = zb)).drew)
  generalize w.drew = u at CN0 CN1 CD0 CD1 HDN HDD HZ HB HKd ⊢
  go_wp2
  go_loopg [7, 8] d (fun kq v7 v8 w' => ∃ x y : Nat, Aside0 (y ≤ kq) ∧ Aside0 (Nat.gcd x y = gcdN n d) ∧ Aside0 (x < 18446744073709551616 ∧ y < 18446744073709551616) ∧ Aside0 ((x < 4294967296 ∧ y < 4294967296) ∨ Div22) ∧ Aside0 (Dg w' v7 (dig x)) ∧ Aside0 (Dg w' v8 (dig y)) ∧ Aside0 (Below u.heap.size u w'))
  case atStart => exact ⟨n.natAbs, d, ⟨Nat.le_refl _⟩, ⟨rfl⟩, HSS, HS, HDN, HDD, ⟨Below.refl _ _⟩⟩
  case round =>
    obtain ⟨x, y, hk, hG, hsz, hsx, H7, H8, HBL⟩ := hrel
    obtain ⟨A7, c7, e7, hc7, hC7⟩ := H7.out.len rfl
    obtain ⟨A8, c8, e8, hc8, hC8⟩ := H8.out.len rfl
    clear hC7 hC8
    subst e7 e8
    by_cases hy : y = 0
    · have hl : (dig y).length = 0 := (dig_len_zero y).2 hy
      have HY := Aside0.mk hy
      clear hy
      have hG0 : x = gcdN n d := by have := hG.out; rw [HY.out, Nat.gcd_zero_right] at this; exact this
      have hgp := gcdN_pos n d HD0.out
      have cn1 := pw_cell_below HBL.out CN1.out
      have HDNr := HDN.out.below HBL.out
      have hx0 : x ≠ 0 := by omega
      have hxd : x ≤ d := by rw [hG0]; exact Nat.gcd_le_right n.natAbs (Nat.pos_of_ne_zero HD0.out)
      have hor1 : (n.natAbs < 4294967296 ∧ x < 4294967296) ∨ Div22 := HS.out.elim (fun h => Or.inl ⟨h.1, Nat.lt_of_le_of_lt hxd h.2⟩) Or.inr
      have hor2 : (d < 4294967296 ∧ x < 4294967296) ∨ Div22 := HS.out.elim (fun h => Or.inl ⟨h.2, Nat.lt_of_le_of_lt hxd h.2⟩) Or.inr
      have HX0 := Aside0.mk hx0
      have HOR1 := Aside0.mk hor1
      have HOR2 := Aside0.mk hor2
      have HG0 := Aside0.mk hG0
      clear hx0 hxd hor1 hor2 hG0 hgp
      go_wp2_with fail
      refine (div.calls wr n.natAbs x _ _ HDNr H7.out HSS.out.1 hsz.out.1 HX0.out HOR1.out).mono ?_
      rintro e w1 ⟨vq1, vr1, ds1, rs1, rfl, hq1, hr1, hi1, hj1, hv1, hu1, hb1⟩
      have HB1 := Aside0.mk (below_then HBL.out HBL.out.size hb1)
      have HQ1 := Aside0.mk hq1
      have HV1 := Aside0.mk hv1
      have HI1 := Aside0.mk hi1
      have H71 := Aside0.mk (H7.out.below hb1)
      clear hq1 hr1 hi1 hj1 hv1 hu1 hb1 cn1 HDNr
      have cd1 := pw_cell_below HB1.out CD1.out
      have HDDr := HDD.out.below HB1.out
      go_wp2_with fail
      refine (div.calls w1 d x _ _ HDDr H71.out HSS.out.2 hsz.out.1 HX0.out HOR2.out).mono ?_
      rintro e w2 ⟨vq2, vr2, ds2, rs2, rfl, hq2, hr2, hi2, hj2, hv2, hu2, hb2⟩
      have HB2 := Aside0.mk (below_then HB1.out HB1.out.size hb2)
      have HQ2 := Aside0.mk hq2
      have HV2 := Aside0.mk hv2
      have HI2 := Aside0.mk hi2
      have HQ12 := Aside0.mk (HQ1.out.below hb2)
      clear hq2 hr2 hi2 hj2 hv2 hu2 hb2 cd1 HDDr
      have cn0 := pw_cell_below HB2.out CN0.out
      have cd0 := pw_cell_below HB2.out CD0.out
      go_wp2
      go_still_tail 13, (by kernel_rfl)
      change wpList _ _ _ _ _ w2.drew
      go_wp2_with fail
      refine (put.calls w0 w2.drew zb 43 x0 x1 [x2] (blk_below HZ.out (below_drew1 HB2.out)) ln vq1 ds1 (HQ12.out.below (below_drew1 (Below.refl _ w2))) HI1.out (by decide) (below_drew1 (below_then HB.out HB.out.size HB2.out)) hge).mono ?_
      rintro e w3 ⟨rfl, v3, hb3, hd3, hk3, hB3, hs3, -⟩
      have HB3 := Aside0.mk hB3
      have HZ3 := Aside0.mk hb3
      have HD3 := Aside0.mk hd3
      have HK3 := Aside0.mk (show Kept u w3 (fun k => k = zb) from (Kept.of_below HB2.out _).then_ hk3 (fun k hk => Or.inl hk))
      have HQ3 := Aside0.mk ((HQ2.out.below (below_drew1 (Below.refl _ w2))).kept hk3 (noDg_one (blk_below HZ.out (below_drew1 HB2.out)) (by decide)))
      clear hb3 hd3 hk3 hB3 hs3 cn0 cd0
      have hlt3 : zb < w3.heap.size := blk_lt HZ3.out
      have HZ4 := Aside0.mk (blk_below HZ3.out (below_alloc (Below.refl _ w3) (.cells #[.bool false, .slice none 0 0] 41)))
      have HQ4 := Aside0.mk (HQ3.out.below (below_alloc (Below.refl _ w3) (.cells #[.bool false, .slice none 0 0] 41)))
      have HD4 := Aside0.mk (HD3.out.below (below_alloc (Below.refl _ w3) (.cells #[.bool false, .slice none 0 0] 41)))
      go_wp2_with fail
      refine (putI.calls w3 _ w3.heap.size (.bool false) (.slice none 0 0) (blk_new w3 _) false vq2 ds2 HQ4.out HI2.out (vl ds2) rfl (below_alloc (Below.refl _ _) _) (Nat.le_refl _)).mono ?_
      rintro e w5 ⟨rfl, hJ5, hK5, hB5⟩
      obtain ⟨v5, hb5, hd5, -⟩ := hJ5
      obtain ⟨A5, k5, ev5, -, -⟩ := hd5.len rfl
      subst ev5
      have c5 : w5.cell? ⟨w3.heap.size, 1, none⟩ = some (.slice A5 (dig (vl ds2).natAbs).length k5) := (blk_cell hb5 1).trans rfl
      have HZ5 := Aside0.mk (blk_kept HZ4.out hK5 (by omega))
      have cz : w5.cell? ⟨zb, 2, none⟩ = some x2 := (blk_cell HZ5.out 2).trans rfl
      have fz := blk_frozen HZ5.out 2
      have HD5 := Aside0.mk (HD4.out.kept hK5 (noDg_one (blk_new w3 _) (by decide)))
      have HV5 := Aside0.mk hd5
      have HB5 := Aside0.mk hB5
      clear hb5 hd5 hK5 hB5 hlt3
      go_wp2
      go_ret
      have hkz : Kept w5 (w5.setCell ⟨zb, 2, none⟩ (.slice A5 (dig (vl ds2).natAbs).length k5)) (fun k => k = zb) := (Kept.refl w5 (fun k => k = zb)).setCell (p := ⟨zb, 2, none⟩) (Or.inl rfl) (.slice A5 (dig (vl ds2).natAbs).length k5)
      have hnz := noDg_one HZ5.out (by decide)
      have hvl1 : vl ds1 = ((n.natAbs / gcdN n d : Nat) : Int) := by rw [HV1.out, HG0.out]
      have hvl2 : vl ds2 = ((lowD n d : Nat) : Int) := by rw [HV2.out, HG0.out]; rfl
      refine ⟨rfl, ⟨v3, (.slice A5 (dig (vl ds2).natAbs).length k5), ?_, ?_, ?_⟩, ?_, ?_⟩
      · have h := blk_set HZ5.out 2 (.slice A5 (dig (vl ds2).natAbs).length k5)
        rw [h, HLN.out, hvl1]
        have e := lowN_sign n d
        rw [← e]
        rfl
      · have h := HD5.out.kept hkz hnz
        rw [hvl1, Int.toNat_natCast] at h
        rw [lowN_abs]
        exact h
      · have h := HV5.out.kept hkz hnz
        have e : (vl ds2).natAbs = lowD n d := by rw [hvl2, Int.natAbs_natCast]
        rw [e] at h ⊢
        exact h
      · have h1 := HKd.out.then_ HK3.out (fun k hk => Or.inl hk)
        have h2 := h1.below HB5.out
        exact h2.then_ hkz (fun k hk => Or.inl hk)
      · exact (below_then HB3.out HB3.out.size HB5.out).setCell (p := ⟨zb, 2, none⟩) hge (.slice A5 (dig (vl ds2).natAbs).length k5)
    · have hl : ¬ (dig y).length = 0 := fun e => hy ((dig_len_zero y).1 e)
      have hl2 : (0 : Int) < ((dig y).length : Int) := by omega
      have HY := Aside0.mk hy
      clear hy
      go_wp2_with fail
      refine (div.calls wr x y _ _ H7.out H8.out hsz.out.1 hsz.out.2 HY.out hsx.out).mono ?_
      rintro e w1 ⟨vq1, vr1, ds1, rs1, rfl, hq1, hr1, hi1, hj1, hv1, hu1, hb1⟩
      have HB1 := Aside0.mk (below_then HBL.out HBL.out.size hb1)
      have HR1 := Aside0.mk hr1
      have HU1 := Aside0.mk hu1
      have HJ1 := Aside0.mk hj1
      have H81 := Aside0.mk (H8.out.below hb1)
      clear hq1 hr1 hi1 hj1 hv1 hu1 hb1
      go_wp2
      go_region_with (first
        | (go_at_call 42
           refine (putI.calls w1 _ w1.heap.size (.bool false) (.slice none 0 0) (blk_new w1.drew _) false vr1 rs1 (HR1.out.below (below_alloc (below_drew1 (Below.refl _ w1)) _)) HJ1.out (vl rs1) rfl (below_alloc (below_drew1 (Below.refl _ w1)) _) (Nat.le_refl _)).mono ?_
           rintro e w5 ⟨rfl, hJ5, hK5, hB5⟩
           obtain ⟨v5, hb5, hd5, -⟩ := hJ5
           have c5 : w5.cell? ⟨w1.heap.size, 1, none⟩ = some v5 := (blk_cell hb5 1).trans rfl
           have HV5 := Aside0.mk hd5
           have HB5 := Aside0.mk hB5
           clear hb5 hd5 hK5 hB5))
      go_wp2
      go_roundg (y - 1)
      case measure => have := hk.out; have := HY.out; omega
      case rel =>
        have hm : x % y < y := Nat.mod_lt _ (Nat.pos_of_ne_zero HY.out)
        have e : (vl rs1).natAbs = x % y := by rw [HU1.out, Int.natAbs_natCast]
        have h5 := HV5.out
        rw [e] at h5
        exact ⟨y, x % y, ⟨by omega⟩, ⟨by rw [← hG.out, Nat.gcd_comm x y, Nat.gcd_rec y x, Nat.gcd_comm]⟩, ⟨by have := hsz.out; omega⟩, ⟨hsx.out.elim (fun h => Or.inl ⟨h.2, by omega⟩) Or.inr⟩, ⟨H81.out.below HB5.out⟩, ⟨h5⟩, ⟨below_then HB1.out HB1.out.size HB5.out⟩⟩
end Go.Proofs.Ytmkjkcfmjfeheaa.QFnExactMeanDeuce
