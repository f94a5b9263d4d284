/- slices' symMergeCmpFunc at darts, walked over the row's whole block. Condition: the plain function, which asks for each place that is read, has a value. -/
import Derived.Test.YtacmfgbeaoalfaacGSt
import Derived.Test.YtacmfgbeaoalfaacGSr
namespace Go.Proofs.Ytacmfgbeaoalfaa.QFnDartsFinish
open Go.RowKit Go.Proofs.YtacmfgbeaoalfaaW.PrintWords Go.Proofs.YtacmfgbeaoalfaaW.PrintLast Go.Proofs.YtacmfgbeaoalfaaW.PrintMore
set_option linter.unusedVariables false
set_option linter.unusedSimpArgs false
set_option maxHeartbeats 16000000 in
set_option maxRecDepth 100000 in
theorem symB (pb cap len a m b i : Nat) (hm : a < m ∧ m ≠ a + 1) (hmb : b = m + 1) (hb : b ≤ len) (hlen : len ≤ 1000) (hi : a ≤ i ∧ i ≤ m) (xs2 : List S43) (hbs : bsO (qGe xs2 m) 100 a m = some i) (cur : Array Value) (w : World) (hl : xs2.length = len) (hc : w.heap[pb]? = some (.cells cur 43 (0, 0))) (hh : HoldsD cap cur xs2) :
    Calls Try.prog 66 #[.slice (some ⟨pb, 0, none⟩) len cap, .int .i64 (a : Int), .int .i64 (m : Int), .int .i64 (b : Int), .func (.func 54) #[] #[]] w fun e w' => e = .returned (.tuple #[]) ∧ Bp pb w w' ∧ ∃ cur', w'.heap[pb]? = some (.cells cur' 43 (0, 0)) ∧ HoldsD cap cur' (shD i (m - i) xs2) := by
  have hu43 := Try.underlying43
  have mixed : Try.prog.follows .mixedOrders = true := by kernel_rfl
  have HL := Aside0.mk hl
  have HC := Aside0.mk hc
  have HH := Aside0.mk hh
  have HBP := Aside0.mk (Bp.rfl_ pb w)
  have HBS := Aside0.mk hbs
  have HIR := Aside0.mk hi
  have HM := Aside0.mk (And.intro hm (And.intro hmb (And.intro hb hlen)))
  obtain ⟨D, hD⟩ : ∃ D, D = m - a := ⟨_, rfl⟩
  have w1 : wrap64 ((m : Int) - (a : Int)) = (D : Int) := by unfold wrap64; omega
  have w2_ : IntKind.i64.wrap ((m : Int) - (a : Int)) = (D : Int) := by rw [i64_w]; exact w1
  have w3_ : wrap64 ((b : Int) - (m : Int)) = 1 := by clear w1 w2_; unfold wrap64; omega
  have w4_ : IntKind.i64.wrap ((b : Int) - (m : Int)) = 1 := by rw [i64_w]; exact w3_
  have d1 : ((D : Int) == 1) = false := beq_eq_false_iff_ne.2 (by omega)
  have d2 : (D == 1) = false := beq_eq_false_iff_ne.2 (by omega)
  have d3 : ((D : Int) = 1) = False := eq_false (by omega)
  have d4 : (D = 1) = False := eq_false (by omega)
  have HMA := Aside0.mk (show m ≤ len ∧ m < len by omega)
  clear hl hc hh hbs hi hm hmb hb hlen hD
  go_enter Try.func66, Try.ntmps66
  go_wp2
  clear w1 w2_ w3_ w4_ d1 d2 d3 d4
  go_loopg [14, 15] 100 (fun kq v10 v11 w' => ∃ (x y : Nat) (cur' : Array Value), v10 = .int .i64 (x : Int) ∧ v11 = .int .i64 (y : Int) ∧ Aside0 (bsO (qGe xs2 m) kq x y = some i) ∧ Aside0 (y ≤ len) ∧ Aside0 (w'.heap[pb]? = some (.cells cur' 43 (0, 0))) ∧ Aside0 (HoldsD cap cur' xs2) ∧ Aside0 (Bp pb w w'))
  case atStart => exact ⟨a, m, cur, rfl, rfl, HBS, ⟨HMA.out.1⟩, HC, HH, HBP⟩
  case round =>
    clear HC HH HBP HBS
    obtain ⟨x, y, cur1, rfl, rfl, HBS, HY, HC, HH, HBP⟩ := hrel
    cases gk with
    | zero => exact absurd HBS.out (by simp [bsO])
    | succ f =>
      have H := HBS.out
      rw [bsO] at H
      by_cases c : x < y
      · rw [if_pos c] at H
        obtain ⟨t, ht, H⟩ := Option.bind_eq_some_iff.1 H
        obtain ⟨J, hJ⟩ : ∃ J, J = (x + y) / 2 := ⟨_, rfl⟩
        rw [← hJ] at ht H
        obtain ⟨cv, hcv, htv⟩ := Option.bind_eq_some_iff.1 ht
        obtain ⟨hJ1, hK1, hcv⟩ := qC_some hcv
        have HJ := Aside0.mk hJ1
        have HK := Aside0.mk hK1
        have HCV := Aside0.mk hcv
        have htv : t = !decide (cv < 0) := (Option.some.inj htv).symm
        have HN := Aside0.mk H
        have hyl := HY.out
        have hl1 := HM.out.2.2.2
        have c1 : decide ((x : Int) < (y : Int)) = true := decide_eq_true (by omega)
        have c2 : decide (x < y) = true := decide_eq_true c
        have p1 : (0 ≤ (J : Int)) = True := eq_true (by omega)
        have p2 : ((J : Int) < (len : Int)) = True := eq_true (by rw [HL.out] at hK1; exact Int.ofNat_lt.2 hK1)
        have p3 : (J < len) = True := eq_true (by rw [HL.out] at hK1; exact hK1)
        have p4 : (0 ≤ (m : Int)) = True := eq_true (by omega)
        have p5 : ((m : Int) < (len : Int)) = True := eq_true (by rw [HL.out] at hJ1; exact Int.ofNat_lt.2 hJ1)
        have p6 : (m < len) = True := eq_true (by rw [HL.out] at hJ1; exact hJ1)
        have e1 : ((x : Int) + (y : Int)) / 2 = (J : Int) := by omega
        have e2 : (x + y) / 2 = J := hJ.symm
        have HJX := Aside0.mk (show J < y by omega)
        clear hJ1 hK1 hcv ht H HBS hJ
        have r0 : wr.cell? ⟨pb, m * 2, none⟩ = some (.int .i64 (rd_T43 xs2 (m : Int)).f0) := (blk_cell HC.out _).trans (HH.out.f0 m HJ.out)
        have r1 : wr.cell? ⟨pb, m * 2 + 1, none⟩ = some (.int .i64 (rd_T43 xs2 (m : Int)).f1) := (blk_cell HC.out _).trans (HH.out.f1 m HJ.out)
        have r2 : wr.cell? ⟨pb, J * 2, none⟩ = some (.int .i64 (rd_T43 xs2 (J : Int)).f0) := (blk_cell HC.out _).trans (HH.out.f0 J HK.out)
        have r3 : wr.cell? ⟨pb, J * 2 + 1, none⟩ = some (.int .i64 (rd_T43 xs2 (J : Int)).f1) := (blk_cell HC.out _).trans (HH.out.f1 J HK.out)
        go_upto_region 17 with fail
        go_region_held3 (fun w' => (w'.cell? ⟨pb, m * 2, none⟩ = some (.int .i64 (rd_T43 xs2 (m : Int)).f0) ∧ w'.cell? ⟨pb, m * 2 + 1, none⟩ = some (.int .i64 (rd_T43 xs2 (m : Int)).f1)) ∧ w'.cell? ⟨pb, J * 2, none⟩ = some (.int .i64 (rd_T43 xs2 (J : Int)).f0) ∧ w'.cell? ⟨pb, J * 2 + 1, none⟩ = some (.int .i64 (rd_T43 xs2 (J : Int)).f1)) (exact ⟨⟨r0, r1⟩, r2, r3⟩) (first
          | (go_at_call 54; (with_reducible refine (cmpD.calls (rd_T43 xs2 (m : Int)) (rd_T43 xs2 (J : Int)) _).mono ?_); rw [← HCV.out]; rintro e w2 ⟨rfl, hb⟩; have HC9 := Aside0.mk (blk_below (by first | exact HC.out | exact blk_drew HC.out) hb); have HP9 := Aside0.mk (HBP.out.trans (Bp.below pb (by first | exact hb | exact below_of_drew hb))); clear HC HBP hb r0 r1 r2 r3; have HC := HC9; have HBP := HP9; clear HC9 HP9; have r0 : w2.cell? ⟨pb, m * 2, none⟩ = some (.int .i64 (rd_T43 xs2 (m : Int)).f0) := (blk_cell HC.out _).trans (HH.out.f0 m HJ.out); have r1 : w2.cell? ⟨pb, m * 2 + 1, none⟩ = some (.int .i64 (rd_T43 xs2 (m : Int)).f1) := (blk_cell HC.out _).trans (HH.out.f1 m HJ.out); have r2 : w2.cell? ⟨pb, J * 2, none⟩ = some (.int .i64 (rd_T43 xs2 (J : Int)).f0) := (blk_cell HC.out _).trans (HH.out.f0 J HK.out); have r3 : w2.cell? ⟨pb, J * 2 + 1, none⟩ = some (.int .i64 (rd_T43 xs2 (J : Int)).f1) := (blk_cell HC.out _).trans (HH.out.f1 J HK.out)))
        clear r0 r1 r2 r3
        cases t with
        | true =>
          have k1 : (!decide (cv < 0)) = true := htv.symm
          rw [k1]
          clear htv
          go_wp2
          go_roundg f
          case measure => omega
          case rel => exact ⟨J + 1, y, _, by first | rfl | go_num, rfl, HN, HY, HC, HH, HBP⟩
        | false =>
          have k1 : (!decide (cv < 0)) = false := htv.symm
          rw [k1]
          clear htv
          go_wp2
          go_roundg f
          case measure => omega
          case rel => exact ⟨x, J, _, rfl, rfl, HN, ⟨by have := HJX.out; have := HY.out; omega⟩, HC, HH, HBP⟩
      · rw [if_neg c] at H
        obtain rfl : x = i := Option.some.inj H
        have c1 : decide ((x : Int) < (y : Int)) = false := decide_eq_false (by omega)
        have c2 : decide (x < y) = false := decide_eq_false c
        obtain ⟨R, hR⟩ : ∃ R, R = shD x (m - x) xs2 := ⟨_, rfl⟩
        have HRT := Aside0.mk hR.symm
        have HXM := Aside0.mk HIR.out
        have HL1 := Aside0.mk HM.out.2.2.2
        clear H HBS c
        go_wp2
        go_loopg [17] (m - x) (fun kq v17 w' => ∃ (xs2 : List S43) (cur' : Array Value), v17 = .int .i64 ((x + kq : Nat) : Int) ∧ Aside0 (x + kq ≤ m) ∧ Aside0 (shD x kq xs2 = R) ∧ Aside0 (xs2.length = len) ∧ Aside0 (w'.heap[pb]? = some (.cells cur' 43 (0, 0))) ∧ Aside0 (HoldsD cap cur' xs2) ∧ Aside0 (Bp pb w w'))
        case atStart => exact ⟨xs2, cur1, by first | rfl | (congr 1; have := HXM.out; omega), ⟨by have := HXM.out; omega⟩, HRT, HL, HC, HH, HBP⟩
        case round =>
          clear HL HC HH HBP HRT
          obtain ⟨xs2, cur1, rfl, HKQ, HRT, HL, HC, HH, HBP⟩ := hrel
          cases gk with
          | zero =>
            obtain ⟨k, hk⟩ : ∃ k, k = x + 0 := ⟨_, rfl⟩
            rw [← hk]
            have c3 : decide ((x : Int) < (k : Int)) = false := decide_eq_false (by omega)
            have c4 : decide (x < k) = false := decide_eq_false (by omega)
            clear hk
            go_wp2
            ((try simp only [Exit.inBlock, Exit.then]); refine bodyPost_ret (results_none rfl _ _ _) rfl ?_)
            rw [← hR, ← HRT.out]
            exact ⟨rfl, HBP.out, cur1, HC.out, HH.out⟩
          | succ d =>
            have hk := HKQ.out
            have hm2 := HMA.out.2
            obtain ⟨J, hJ⟩ : ∃ J, J = x + (d + 1) := ⟨_, rfl⟩
            obtain ⟨K, hK⟩ : ∃ K, K = x + d := ⟨_, rfl⟩
            have HRN := Aside0.mk (show shD x d (swap2 xs2 J K) = R by rw [hJ, hK, ← HRT.out]; rfl)
            rw [← hJ]
            have c3 : decide ((x : Int) < (J : Int)) = true := decide_eq_true (by omega)
            have c4 : decide (x < J) = true := decide_eq_true (by omega)
            have hJl : J < len := by omega
            have hKl : K < len := by omega
            have HJ := Aside0.mk (show J < xs2.length by rw [HL.out]; exact hJl)
            have HK := Aside0.mk (show K < xs2.length by rw [HL.out]; exact hKl)
            have p1 : (0 ≤ (J : Int)) = True := eq_true (by omega)
            have p2 : ((J : Int) < (len : Int)) = True := eq_true (by omega)
            have p3 : (J < len) = True := eq_true hJl
            have p4 : (0 ≤ (K : Int)) = True := eq_true (by omega)
            have p5 : ((K : Int) < (len : Int)) = True := eq_true (by omega)
            have p6 : (K < len) = True := eq_true hKl
            have HKK := Aside0.mk (show x + d ≤ m by omega)
            have HKE := Aside0.mk hK
            have w3 : wrap64 ((J : Int) - 1) = (K : Int) := by have := HL1.out; unfold wrap64; omega
            have w4 : IntKind.i64.wrap ((J : Int) - 1) = (K : Int) := by rw [i64_w]; exact w3
            clear hk hm2 hJ hK hJl hKl
            go_upto_region 23 with fail
            obtain ⟨⟨⟨r0, r1⟩, ⟨r2, r3⟩, fz⟩, ⟨⟨r4, r5⟩, ⟨r6, r7⟩, fz2, fz3⟩, st, ⟨cur3, hc3, hh3⟩, hp3⟩ := swap_facts HC.out HH.out J K HJ.out HK.out
            have HC3 := Aside0.mk hc3
            have HH3 := Aside0.mk hh3
            have HP3 := Aside0.mk (HBP.out.trans hp3)
            clear hc3 hh3 hp3
            go_big_region_o
            clear r0 r1 r2 r3 r4 r5 r6 r7 fz fz2 fz3 st
            go_wp2
            go_roundg d
            case measure => omega
            case rel => exact ⟨swap2 xs2 J K, cur3, by first | rfl | (rw [HKE.out]), HKK, HRN, ⟨by rw [swap2_len]; exact HL.out⟩, HC3, HH3, HP3⟩
end Go.Proofs.Ytacmfgbeaoalfaa.QFnDartsFinish
