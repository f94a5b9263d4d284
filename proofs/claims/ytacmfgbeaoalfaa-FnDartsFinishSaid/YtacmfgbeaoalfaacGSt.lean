/- slices' symMergeCmpFunc at darts, walked over the row's whole block. Condition: the plain function, which asks for each place that is read, has a value. -/
import Derived.Test.YtacmfgbeaoalfaacGSi
import Derived.Test.YtacmfgbeaoalfaacGSr
namespace Go.Proofs.Ytacmfgbeaoalfaa.QFnDartsFinish
open Go.RowKit Go.Proofs.YtacmfgbeaoalfaaW.PrintWords Go.Proofs.YtacmfgbeaoalfaaW.PrintLast Go.Proofs.YtacmfgbeaoalfaaW.PrintMore
set_option linter.unusedVariables false
set_option linter.unusedSimpArgs false
def bsO (q : Nat → Option Bool) : Nat → Nat → Nat → Option Nat
  | 0, _, _ => none
  | f + 1, i, j => if i < j then (q ((i + j) / 2)).bind fun t => (if t = true then bsO q f ((i + j) / 2 + 1) j else bsO q f i ((i + j) / 2)) else some i
def qC (xs : List S43) (J K : Nat) : Option Int := if J < xs.length ∧ K < xs.length then some (cmpD (rd_T43 xs (J : Int)) (rd_T43 xs (K : Int))) else none
def qLt (xs : List S43) (a h : Nat) : Option Bool := (qC xs h a).bind fun c => some (decide (c < 0))
def qGe (xs : List S43) (m h : Nat) : Option Bool := (qC xs m h).bind fun c => some (!decide (c < 0))
def qP (xs : List S43) (p c : Nat) : Option Bool := if c ≤ p then (qC xs (p - c) c).bind fun z => some (!decide (z < 0)) else none
def shU : Nat → Nat → List S43 → List S43
  | 0, _, xs => xs
  | d + 1, k, xs => shU d (k + 1) (swap2 xs k (k + 1))
def shD (i : Nat) : Nat → List S43 → List S43
  | 0, xs => xs
  | d + 1, xs => shD i d (swap2 xs (i + d + 1) (i + d))
def symF (len : Nat) : Nat → Nat → Nat → Nat → List S43 → Option (List S43)
  | 0, _, _, _, _ => none
  | f + 1, a, m, b, xs =>
    if a < m ∧ m < b ∧ b ≤ len then
      if m = a + 1 then (bsO (qLt xs a) 100 m b).bind fun i => if m ≤ i ∧ i ≤ b then some (shU (i - 1 - a) a xs) else none
      else if b = m + 1 then (bsO (qGe xs m) 100 a m).bind fun i => if a ≤ i ∧ i ≤ m then some (shD i (m - i) xs) else none
      else (bsO (qP xs ((a + b) / 2 + m - 1)) 100 (if (a + b) / 2 < m then (a + b) / 2 + m - b else a) (if (a + b) / 2 < m then (a + b) / 2 else m)).bind fun st =>
        if st ≤ (a + b) / 2 + m ∧ (a + b) / 2 + m - st ≤ len then
          (if st < m ∧ m < (a + b) / 2 + m - st then rotF m 200 (m - st) ((a + b) / 2 + m - st - m) xs else some xs).bind fun x1 =>
          (if a < st ∧ st < (a + b) / 2 then symF len f a st ((a + b) / 2) x1 else some x1).bind fun x2 =>
          (if (a + b) / 2 < (a + b) / 2 + m - st ∧ (a + b) / 2 + m - st < b then symF len f ((a + b) / 2) ((a + b) / 2 + m - st) b x2 else some x2)
        else none
    else none
theorem shU_len (d : Nat) : ∀ k xs, (shU d k xs).length = xs.length := by
  induction d with
  | zero => intro k xs; rfl
  | succ d ih => intro k xs; rw [shU, ih, swap2_len]
theorem shD_len (i d : Nat) : ∀ xs, (shD i d xs).length = xs.length := by
  induction d with
  | zero => intro xs; rfl
  | succ d ih => intro xs; rw [shD, ih, swap2_len]
theorem qC_some {xs : List S43} {J K : Nat} {c : Int} (h : qC xs J K = some c) : J < xs.length ∧ K < xs.length ∧ c = cmpD (rd_T43 xs (J : Int)) (rd_T43 xs (K : Int)) := by
  unfold qC at h
  split at h
  · rename_i g
    exact ⟨g.1, g.2, (Option.some.inj h).symm⟩
  · cases h
set_option maxHeartbeats 16000000 in
set_option maxRecDepth 100000 in
theorem symA (pb cap len a m b i : Nat) (hm : m = a + 1) (hmb : m < b) (hb : b ≤ len) (hlen : len ≤ 1000) (hi : m ≤ i ∧ i ≤ b) (xs2 : List S43) (hbs : bsO (qLt xs2 a) 100 m b = some i) (cur : Array Value) (w : World) (hl : xs2.length = len) (hc : w.heap[pb]? = some (.cells cur 43 (0, 0))) (hh : HoldsD cap cur xs2) :
    Calls Try.prog 66 #[.slice (some ⟨pb, 0, none⟩) len cap, .int .i64 (a : Int), .int .i64 (m : Int), .int .i64 (b : Int), .func (.func 54) #[] #[]] w fun e w' => e = .returned (.tuple #[]) ∧ Bp pb w w' ∧ ∃ cur', w'.heap[pb]? = some (.cells cur' 43 (0, 0)) ∧ HoldsD cap cur' (shU (i - 1 - a) a xs2) := by
  have hu43 := Try.underlying43
  have mixed : Try.prog.follows .mixedOrders = true := by kernel_rfl
  have HL := Aside0.mk hl
  have HC := Aside0.mk hc
  have HH := Aside0.mk hh
  have HBP := Aside0.mk (Bp.rfl_ pb w)
  have HBS := Aside0.mk hbs
  have HIR := Aside0.mk hi
  have HM := Aside0.mk (And.intro hm (And.intro hmb (And.intro hb hlen)))
  have w1 : wrap64 ((m : Int) - (a : Int)) = 1 := by unfold wrap64; omega
  have w2_ : IntKind.i64.wrap ((m : Int) - (a : Int)) = 1 := by rw [i64_w]; exact w1
  clear hl hc hh hbs hi hm hmb hb hlen
  go_enter Try.func66, Try.ntmps66
  go_wp2
  clear w1 w2_
  go_loopg [10, 11] 100 (fun kq v10 v11 w' => ∃ (x y : Nat) (cur' : Array Value), v10 = .int .i64 (x : Int) ∧ v11 = .int .i64 (y : Int) ∧ Aside0 (bsO (qLt xs2 a) kq x y = some i) ∧ Aside0 (y ≤ len) ∧ Aside0 (w'.heap[pb]? = some (.cells cur' 43 (0, 0))) ∧ Aside0 (HoldsD cap cur' xs2) ∧ Aside0 (Bp pb w w'))
  case atStart => exact ⟨m, b, cur, rfl, rfl, HBS, ⟨HM.out.2.2.1⟩, HC, HH, HBP⟩
  case round =>
    clear HC HH HBP HBS
    obtain ⟨x, y, cur1, rfl, rfl, HBS, HY, HC, HH, HBP⟩ := hrel
    cases gk with
    | zero => exact absurd HBS.out (by simp [bsO])
    | succ f =>
      have H := HBS.out
      rw [bsO] at H
      by_cases c : x < y
      · rw [if_pos c] at H
        obtain ⟨t, ht, H⟩ := Option.bind_eq_some_iff.1 H
        obtain ⟨J, hJ⟩ : ∃ J, J = (x + y) / 2 := ⟨_, rfl⟩
        rw [← hJ] at ht H
        obtain ⟨cv, hcv, htv⟩ := Option.bind_eq_some_iff.1 ht
        obtain ⟨hJ1, hK1, hcv⟩ := qC_some hcv
        have HJ := Aside0.mk hJ1
        have HK := Aside0.mk hK1
        have HCV := Aside0.mk hcv
        have htv : t = decide (cv < 0) := (Option.some.inj htv).symm
        have HN := Aside0.mk H
        have hyl := HY.out
        have hl1 := HM.out.2.2.2
        have c1 : decide ((x : Int) < (y : Int)) = true := decide_eq_true (by omega)
        have c2 : decide (x < y) = true := decide_eq_true c
        have p1 : (0 ≤ (J : Int)) = True := eq_true (by omega)
        have p2 : ((J : Int) < (len : Int)) = True := eq_true (by rw [HL.out] at hJ1; exact Int.ofNat_lt.2 hJ1)
        have p3 : (J < len) = True := eq_true (by rw [HL.out] at hJ1; exact hJ1)
        have p4 : (0 ≤ (a : Int)) = True := eq_true (by omega)
        have p5 : ((a : Int) < (len : Int)) = True := eq_true (by rw [HL.out] at hK1; exact Int.ofNat_lt.2 hK1)
        have p6 : (a < len) = True := eq_true (by rw [HL.out] at hK1; exact hK1)
        have e1 : ((x : Int) + (y : Int)) / 2 = (J : Int) := by omega
        have e2 : (x + y) / 2 = J := hJ.symm
        have HJX := Aside0.mk (show J < y by omega)
        clear hJ1 hK1 hcv ht H HBS hJ
        have r0 : wr.cell? ⟨pb, J * 2, none⟩ = some (.int .i64 (rd_T43 xs2 (J : Int)).f0) := (blk_cell HC.out _).trans (HH.out.f0 J HJ.out)
        have r1 : wr.cell? ⟨pb, J * 2 + 1, none⟩ = some (.int .i64 (rd_T43 xs2 (J : Int)).f1) := (blk_cell HC.out _).trans (HH.out.f1 J HJ.out)
        have r2 : wr.cell? ⟨pb, a * 2, none⟩ = some (.int .i64 (rd_T43 xs2 (a : Int)).f0) := (blk_cell HC.out _).trans (HH.out.f0 a HK.out)
        have r3 : wr.cell? ⟨pb, a * 2 + 1, none⟩ = some (.int .i64 (rd_T43 xs2 (a : Int)).f1) := (blk_cell HC.out _).trans (HH.out.f1 a HK.out)
        go_upto_region 5 with fail
        go_region_held3 (fun w' => (w'.cell? ⟨pb, J * 2, none⟩ = some (.int .i64 (rd_T43 xs2 (J : Int)).f0) ∧ w'.cell? ⟨pb, J * 2 + 1, none⟩ = some (.int .i64 (rd_T43 xs2 (J : Int)).f1)) ∧ w'.cell? ⟨pb, a * 2, none⟩ = some (.int .i64 (rd_T43 xs2 (a : Int)).f0) ∧ w'.cell? ⟨pb, a * 2 + 1, none⟩ = some (.int .i64 (rd_T43 xs2 (a : Int)).f1)) (exact ⟨⟨r0, r1⟩, r2, r3⟩) (first
          | (go_at_call 54; (with_reducible refine (cmpD.calls (rd_T43 xs2 (J : Int)) (rd_T43 xs2 (a : Int)) _).mono ?_); rw [← HCV.out]; rintro e w2 ⟨rfl, hb⟩; have HC9 := Aside0.mk (blk_below (by first | exact HC.out | exact blk_drew HC.out) hb); have HP9 := Aside0.mk (HBP.out.trans (Bp.below pb (by first | exact hb | exact below_of_drew hb))); clear HC HBP hb r0 r1 r2 r3; have HC := HC9; have HBP := HP9; clear HC9 HP9; have r0 : w2.cell? ⟨pb, J * 2, none⟩ = some (.int .i64 (rd_T43 xs2 (J : Int)).f0) := (blk_cell HC.out _).trans (HH.out.f0 J HJ.out); have r1 : w2.cell? ⟨pb, J * 2 + 1, none⟩ = some (.int .i64 (rd_T43 xs2 (J : Int)).f1) := (blk_cell HC.out _).trans (HH.out.f1 J HJ.out); have r2 : w2.cell? ⟨pb, a * 2, none⟩ = some (.int .i64 (rd_T43 xs2 (a : Int)).f0) := (blk_cell HC.out _).trans (HH.out.f0 a HK.out); have r3 : w2.cell? ⟨pb, a * 2 + 1, none⟩ = some (.int .i64 (rd_T43 xs2 (a : Int)).f1) := (blk_cell HC.out _).trans (HH.out.f1 a HK.out)))
        clear r0 r1 r2 r3
        cases t with
        | true =>
          have k1 : decide (cv < 0) = true := htv.symm
          rw [k1]
          clear htv
          go_wp2
          go_roundg f
          case measure => omega
          case rel => exact ⟨J + 1, y, _, by first | rfl | go_num, rfl, HN, HY, HC, HH, HBP⟩
        | false =>
          have k1 : decide (cv < 0) = false := htv.symm
          rw [k1]
          clear htv
          go_wp2
          go_roundg f
          case measure => omega
          case rel => exact ⟨x, J, _, rfl, rfl, HN, ⟨by have := HJX.out; have := HY.out; omega⟩, HC, HH, HBP⟩
      · rw [if_neg c] at H
        obtain rfl : x = i := Option.some.inj H
        have c1 : decide ((x : Int) < (y : Int)) = false := decide_eq_false (by omega)
        have c2 : decide (x < y) = false := decide_eq_false c
        have hR : ∃ R, R = shU (x - 1 - a) a xs2 := ⟨_, rfl⟩
        obtain ⟨R, hR⟩ := hR
        have HRT := Aside0.mk hR.symm
        obtain ⟨x1, hx1⟩ : ∃ x1, x1 = x - 1 := ⟨_, rfl⟩
        have e3 : (x : Int) - 1 = (x1 : Int) := by have := HIR.out; have := HM.out; omega
        have HX1 := Aside0.mk (show x1 < len ∧ a ≤ x1 by have := HIR.out; have := HM.out; omega)
        have HL1 := Aside0.mk HM.out.2.2.2
        rw [← hx1] at HRT
        have w1 : wrap64 ((x : Int) - 1) = (x1 : Int) := by have := HIR.out; have := HM.out; rw [e3]; unfold wrap64; omega
        have w2_ : IntKind.i64.wrap ((x : Int) - 1) = (x1 : Int) := by rw [i64_w]; exact w1
        have HE3 := Aside0.mk e3
        clear H HBS c hx1 e3
        go_wp2
        go_loopg [13] (x1 - a) (fun kq v13 w' => ∃ (k : Nat) (xs2 : List S43) (cur' : Array Value), v13 = .int .i64 (k : Int) ∧ Aside0 (a ≤ k ∧ kq = x1 - k) ∧ Aside0 (shU kq k xs2 = R) ∧ Aside0 (xs2.length = len) ∧ Aside0 (w'.heap[pb]? = some (.cells cur' 43 (0, 0))) ∧ Aside0 (HoldsD cap cur' xs2) ∧ Aside0 (Bp pb w w'))
        case atStart => exact ⟨a, xs2, cur1, rfl, ⟨⟨Nat.le_refl _, rfl⟩⟩, by first | exact HRT | exact ⟨hR.symm⟩, HL, HC, HH, HBP⟩
        case round =>
          clear HL HC HH HBP HRT
          obtain ⟨k, xs2, cur1, rfl, HKQ, HRT, HL, HC, HH, HBP⟩ := hrel
          cases gk with
          | zero =>
            have c3 : decide ((k : Int) < (x1 : Int)) = false := decide_eq_false (by have := HKQ.out; omega)
            have c4 : decide (k < x1) = false := decide_eq_false (by have := HKQ.out; omega)
            go_wp2
            ((try simp only [Exit.inBlock, Exit.then]); refine bodyPost_ret (results_none rfl _ _ _) rfl ?_)
            rw [← hR, ← HRT.out]
            exact ⟨rfl, HBP.out, cur1, HC.out, HH.out⟩
          | succ d =>
            have hk := HKQ.out
            have hx := HX1.out
            obtain ⟨J, hJ⟩ : ∃ J, J = k := ⟨_, rfl⟩
            obtain ⟨K, hK⟩ : ∃ K, K = k + 1 := ⟨_, rfl⟩
            have HRN := Aside0.mk (show shU d (k + 1) (swap2 xs2 J K) = R by rw [hJ, hK, ← HRT.out]; rfl)
            rw [← hK] at HRN
            rw [← hJ]
            have c3 : decide ((J : Int) < (x1 : Int)) = true := decide_eq_true (by omega)
            have c4 : decide (J < x1) = true := decide_eq_true (by omega)
            have hJl : J < len := by omega
            have hKl : K < len := by omega
            have HJ := Aside0.mk (show J < xs2.length by rw [HL.out]; exact hJl)
            have HK := Aside0.mk (show K < xs2.length by rw [HL.out]; exact hKl)
            have p1 : (0 ≤ (J : Int)) = True := eq_true (by omega)
            have p2 : ((J : Int) < (len : Int)) = True := eq_true (by omega)
            have p3 : (J < len) = True := eq_true hJl
            have p4 : (0 ≤ (K : Int)) = True := eq_true (by omega)
            have p5 : ((K : Int) < (len : Int)) = True := eq_true (by omega)
            have p6 : (K < len) = True := eq_true hKl
            have HKK := Aside0.mk (show a ≤ K ∧ d = x1 - K by omega)
            have w3 : wrap64 ((J : Int) + 1) = (K : Int) := by have := HL1.out; clear w1 w2_; unfold wrap64; omega
            have w4 : IntKind.i64.wrap ((J : Int) + 1) = (K : Int) := by rw [i64_w]; exact w3
            have HE5 := Aside0.mk (show (J : Int) + 1 = (K : Int) by omega)
            clear hk hx hJ hK hJl hKl
            go_upto_region 11 with fail
            obtain ⟨⟨⟨r0, r1⟩, ⟨r2, r3⟩, fz⟩, ⟨⟨r4, r5⟩, ⟨r6, r7⟩, fz2, fz3⟩, st, ⟨cur3, hc3, hh3⟩, hp3⟩ := swap_facts HC.out HH.out J K HJ.out HK.out
            have HC3 := Aside0.mk hc3
            have HH3 := Aside0.mk hh3
            have HP3 := Aside0.mk (HBP.out.trans hp3)
            clear hc3 hh3 hp3
            go_big_region_o
            clear r0 r1 r2 r3 r4 r5 r6 r7 fz fz2 fz3 st
            go_wp2
            go_roundg d
            case measure => omega
            case rel => exact ⟨K, swap2 xs2 J K, cur3, by first | rfl | (rw [HE5.out]), HKK, HRN, ⟨by rw [swap2_len]; exact HL.out⟩, HC3, HH3, HP3⟩
end Go.Proofs.Ytacmfgbeaoalfaa.QFnDartsFinish
