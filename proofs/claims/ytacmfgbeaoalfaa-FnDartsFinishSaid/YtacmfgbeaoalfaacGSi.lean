/- slices' insertionSortCmpFunc at darts, walked over the row's whole block. Condition: the range lies in the row. -/
import Derived.Test.YtacmfgbeaoalfaacGSa
import Derived.Test.YtacmfgbeaoalfaacGSc
namespace Go.Proofs.Ytacmfgbeaoalfaa.QFnDartsFinish
open Go.RowKit Go.Proofs.YtacmfgbeaoalfaaW.PrintWords Go.Proofs.YtacmfgbeaoalfaaW.PrintLast Go.Proofs.YtacmfgbeaoalfaaW.PrintMore
set_option linter.unusedVariables false
set_option linter.unusedSimpArgs false
theorem swap_facts {pb cap : Nat} {cur : Array Value} {xs : List S43} {wr : World} (hc : wr.heap[pb]? = some (.cells cur 43 (0, 0))) (hh : HoldsD cap cur xs) (J K : Nat) (hJ : J < xs.length) (hK : K < xs.length) :
    ((wr.cell? ⟨pb, J * 2, none⟩ = some (.int .i64 (rd_T43 xs (J : Int)).f0) ∧ wr.cell? ⟨pb, J * 2 + 1, none⟩ = some (.int .i64 (rd_T43 xs (J : Int)).f1)) ∧ (wr.cell? ⟨pb, K * 2, none⟩ = some (.int .i64 (rd_T43 xs (K : Int)).f0) ∧ wr.cell? ⟨pb, K * 2 + 1, none⟩ = some (.int .i64 (rd_T43 xs (K : Int)).f1)) ∧ (∀ i, wr.frozen? ⟨pb, i, none⟩ = false)) ∧
    ((((wr.setCell ⟨pb, J * 2, none⟩ (.int .i64 (rd_T43 xs (K : Int)).f0)).setCell ⟨pb, J * 2 + 1, none⟩ (.int .i64 (rd_T43 xs (K : Int)).f1)).drew.cell? ⟨pb, K * 2, none⟩ = some (.int .i64 (rd_T43 (xs.set J (rd_T43 xs (K : Int))) (K : Int)).f0) ∧ ((wr.setCell ⟨pb, J * 2, none⟩ (.int .i64 (rd_T43 xs (K : Int)).f0)).setCell ⟨pb, J * 2 + 1, none⟩ (.int .i64 (rd_T43 xs (K : Int)).f1)).drew.cell? ⟨pb, K * 2 + 1, none⟩ = some (.int .i64 (rd_T43 (xs.set J (rd_T43 xs (K : Int))) (K : Int)).f1)) ∧ (((wr.setCell ⟨pb, J * 2, none⟩ (.int .i64 (rd_T43 xs (K : Int)).f0)).setCell ⟨pb, J * 2 + 1, none⟩ (.int .i64 (rd_T43 xs (K : Int)).f1)).cell? ⟨pb, K * 2, none⟩ = some (.int .i64 (rd_T43 (xs.set J (rd_T43 xs (K : Int))) (K : Int)).f0) ∧ ((wr.setCell ⟨pb, J * 2, none⟩ (.int .i64 (rd_T43 xs (K : Int)).f0)).setCell ⟨pb, J * 2 + 1, none⟩ (.int .i64 (rd_T43 xs (K : Int)).f1)).cell? ⟨pb, K * 2 + 1, none⟩ = some (.int .i64 (rd_T43 (xs.set J (rd_T43 xs (K : Int))) (K : Int)).f1)) ∧ (∀ i, ((wr.setCell ⟨pb, J * 2, none⟩ (.int .i64 (rd_T43 xs (K : Int)).f0)).setCell ⟨pb, J * 2 + 1, none⟩ (.int .i64 (rd_T43 xs (K : Int)).f1)).drew.frozen? ⟨pb, i, none⟩ = false) ∧ (∀ i, ((wr.setCell ⟨pb, J * 2, none⟩ (.int .i64 (rd_T43 xs (K : Int)).f0)).setCell ⟨pb, J * 2 + 1, none⟩ (.int .i64 (rd_T43 xs (K : Int)).f1)).frozen? ⟨pb, i, none⟩ = false)) ∧
    Sem.run Try.prog (storeCells ⟨pb, K * 2, none⟩ [.int .i64 (rd_T43 xs (J : Int)).f0, .int .i64 (rd_T43 xs (J : Int)).f1]) ((wr.setCell ⟨pb, J * 2, none⟩ (.int .i64 (rd_T43 xs (K : Int)).f0)).setCell ⟨pb, J * 2 + 1, none⟩ (.int .i64 (rd_T43 xs (K : Int)).f1)).drew = .ok () (((((wr.setCell ⟨pb, J * 2, none⟩ (.int .i64 (rd_T43 xs (K : Int)).f0)).setCell ⟨pb, J * 2 + 1, none⟩ (.int .i64 (rd_T43 xs (K : Int)).f1)).setCell ⟨pb, K * 2, none⟩ (.int .i64 (rd_T43 xs (J : Int)).f0)).setCell ⟨pb, K * 2 + 1, none⟩ (.int .i64 (rd_T43 xs (J : Int)).f1)).drew) ∧
    (∃ cur', (((((wr.setCell ⟨pb, J * 2, none⟩ (.int .i64 (rd_T43 xs (K : Int)).f0)).setCell ⟨pb, J * 2 + 1, none⟩ (.int .i64 (rd_T43 xs (K : Int)).f1)).setCell ⟨pb, K * 2, none⟩ (.int .i64 (rd_T43 xs (J : Int)).f0)).setCell ⟨pb, K * 2 + 1, none⟩ (.int .i64 (rd_T43 xs (J : Int)).f1)).drew).heap[pb]? = some (.cells cur' 43 (0, 0)) ∧ HoldsD cap cur' (swap2 xs J K)) ∧ Bp pb wr (((((wr.setCell ⟨pb, J * 2, none⟩ (.int .i64 (rd_T43 xs (K : Int)).f0)).setCell ⟨pb, J * 2 + 1, none⟩ (.int .i64 (rd_T43 xs (K : Int)).f1)).setCell ⟨pb, K * 2, none⟩ (.int .i64 (rd_T43 xs (J : Int)).f0)).setCell ⟨pb, K * 2 + 1, none⟩ (.int .i64 (rd_T43 xs (J : Int)).f1)).drew) := by
  have H1 := hh.set J (rd_T43 xs (K : Int)) hJ
  have B1 := blk_set (blk_set hc (J * 2) (.int .i64 (rd_T43 xs (K : Int)).f0)) (J * 2 + 1) (.int .i64 (rd_T43 xs (K : Int)).f1)
  have H2 := H1.set K (rd_T43 xs (J : Int)) (by rw [List.length_set]; exact hK)
  have B2 := blk_drew (blk_set (blk_set B1 (K * 2) (.int .i64 (rd_T43 xs (J : Int)).f0)) (K * 2 + 1) (.int .i64 (rd_T43 xs (J : Int)).f1))
  have hle := H1.le
  have hsz := H1.sz
  rw [List.length_set] at hle
  exact ⟨⟨⟨(blk_cell hc _).trans (hh.f0 J hJ), (blk_cell hc _).trans (hh.f1 J hJ)⟩, ⟨(blk_cell hc _).trans (hh.f0 K hK), (blk_cell hc _).trans (hh.f1 K hK)⟩, fun i => blk_frozen hc i⟩,
    ⟨⟨(blk_cell B1 _).trans (H1.f0 K (by rw [List.length_set]; exact hK)), (blk_cell B1 _).trans (H1.f1 K (by rw [List.length_set]; exact hK))⟩, ⟨(blk_cell B1 _).trans (H1.f0 K (by rw [List.length_set]; exact hK)), (blk_cell B1 _).trans (H1.f1 K (by rw [List.length_set]; exact hK))⟩, fun i => blk_frozen B1 i, fun i => blk_frozen B1 i⟩,
    store2 Try.prog pb (K * 2) _ _ 43 _ _ (blk_drew B1) (by omega), ⟨_, B2, H2⟩, (((((Bp.rfl_ pb wr).set (J * 2) _).set (J * 2 + 1) _).set (K * 2) _).set (K * 2 + 1) _).drew⟩
def insI (a : Nat) : Nat → List S43 → List S43
  | 0, xs => xs
  | j + 1, xs => if a < j + 1 then (if cmpD (rd_T43 xs ((j + 1 : Nat) : Int)) (rd_T43 xs (j : Int)) < 0 then insI a j (swap2 xs (j + 1) j) else xs) else xs
def insO (a : Nat) : Nat → Nat → List S43 → List S43
  | 0, _, xs => xs
  | d + 1, i, xs => insO a d (i + 1) (insI a i xs)
theorem insI_len (a j : Nat) : ∀ xs, (insI a j xs).length = xs.length := by
  induction j with
  | zero => intro xs; rfl
  | succ j ih =>
    intro xs
    rw [insI]
    split
    · split
      · rw [ih, swap2_len]
      · rfl
    · rfl
theorem insO_len (a d : Nat) : ∀ i xs, (insO a d i xs).length = xs.length := by
  induction d with
  | zero => intro i xs; rfl
  | succ d ih => intro i xs; rw [insO, ih, insI_len]
theorem below_of_drew {w w' : World} (h : Below w.drew.heap.size w.drew w') : Below w.heap.size w w' := ⟨h.os, h.tape, h.output, h.size, h.block⟩
theorem Bp.below {w w' : World} (pb : Nat) (h : Below w.heap.size w w') : Bp pb w w' := ⟨h.os, h.tape, h.output, h.size, fun i hi _ => h.block i hi⟩
set_option maxHeartbeats 8000000 in
set_option maxRecDepth 100000 in
theorem insSort.calls (pb cap len a b : Nat) (hab : a ≤ b) (hb : b ≤ len) (hlen : len ≤ 1000) (xs : List S43) (cur : Array Value) (w : World) (hl : xs.length = len) (hc : w.heap[pb]? = some (.cells cur 43 (0, 0))) (hh : HoldsD cap cur xs) :
    Calls Try.prog 65 #[.slice (some ⟨pb, 0, none⟩) len cap, .int .i64 (a : Int), .int .i64 (b : Int), .func (.func 54) #[] #[]] w fun e w' => e = .returned (.tuple #[]) ∧ Bp pb w w' ∧ ∃ cur', w'.heap[pb]? = some (.cells cur' 43 (0, 0)) ∧ HoldsD cap cur' (insO a (b - (a + 1)) (a + 1) xs) := by
  have hu43 := Try.underlying43
  have mixed : Try.prog.follows .mixedOrders = true := by kernel_rfl
  have HL := Aside0.mk hl
  have HC := Aside0.mk hc
  have HH := Aside0.mk hh
  have HBP := Aside0.mk (Bp.rfl_ pb w)
  clear hl hc hh
  have w0 : wrap64 ((a : Int) + 1) = ((a + 1 : Nat) : Int) := by unfold wrap64; omega
  have w0' : IntKind.i64.wrap ((a : Int) + 1) = ((a + 1 : Nat) : Int) := by rw [i64_w]; exact w0
  obtain ⟨a1, ha1⟩ : ∃ a1, a1 = a + 1 := ⟨_, rfl⟩
  rw [← ha1] at w0 w0'
  have target : ∃ R, R = insO a (b - (a + 1)) (a + 1) xs := ⟨_, rfl⟩
  obtain ⟨R, hR⟩ := target
  rw [← hR]
  have HRT := Aside0.mk (show insO a (b - a1) a1 xs = R by rw [ha1, hR])
  clear hR
  go_enter Try.func65, Try.ntmps65
  go_wp2
  clear w0 w0'
  go_loopg [8] (b - a1) (fun kq v8 w' => ∃ (i : Nat) (xs' : List S43) (cur' : Array Value), v8 = .int .i64 (i : Int) ∧ Aside0 (a < i) ∧ Aside0 (kq = b - i) ∧ Aside0 (insO a kq i xs' = R) ∧ Aside0 (xs'.length = len) ∧ Aside0 (w'.heap[pb]? = some (.cells cur' 43 (0, 0))) ∧ Aside0 (HoldsD cap cur' xs') ∧ Aside0 (Bp pb w w'))
  case atStart => exact ⟨a1, xs, cur, by first | rfl | (congr 1; omega), ⟨by omega⟩, ⟨rfl⟩, HRT, HL, HC, HH, HBP⟩
  case round =>
    clear HL HC HH HBP HRT
    obtain ⟨i, xs1, cur1, rfl, HA, HI, HR, HL, HC, HH, HBP⟩ := hrel
    cases gk with
    | zero =>
      have c0 : decide ((i : Int) < (b : Int)) = false := decide_eq_false (by have := HI.out; omega)
      have c1 : decide (i < b) = false := decide_eq_false (by have := HI.out; omega)
      go_wp2
      go_end0
      rw [← HR.out]
      exact ⟨rfl, HBP.out, cur1, HC.out, HH.out⟩
    | succ d =>
      have hi : i < b := by have := HI.out; omega
      have c0 : decide ((i : Int) < (b : Int)) = true := decide_eq_true (by omega)
      have c1 : decide (i < b) = true := decide_eq_true hi
      have HIB := Aside0.mk hi
      clear hi
      go_wp2
      go_loopg [9] i (fun kq v9 w' => ∃ (xs' : List S43) (cur' : Array Value), v9 = .int .i64 (kq : Int) ∧ Aside0 (kq ≤ i) ∧ Aside0 (insI a kq xs' = insI a i xs1) ∧ Aside0 (xs'.length = len) ∧ Aside0 (w'.heap[pb]? = some (.cells cur' 43 (0, 0))) ∧ Aside0 (HoldsD cap cur' xs') ∧ Aside0 (Bp pb w w'))
      case atStart => exact ⟨xs1, cur1, rfl, ⟨Nat.le_refl _⟩, ⟨rfl⟩, HL, HC, HH, HBP⟩
      case round =>
        clear HL HC HH HBP
        obtain ⟨xs2, cur2, rfl, HJI, HR2, HL, HC, HH, HBP⟩ := hrel
        have w5 : wrap64 ((i : Int) + 1) = ((i + 1 : Nat) : Int) := by have := HIB.out; unfold wrap64; omega
        have w6 : IntKind.i64.wrap ((i : Int) + 1) = ((i + 1 : Nat) : Int) := by rw [i64_w]; exact w5
        by_cases hja : a < gk
        · obtain ⟨K, hK⟩ : ∃ K, gk = K + 1 := ⟨gk - 1, by omega⟩
          obtain ⟨J, hJ⟩ : ∃ J, J = gk := ⟨_, rfl⟩
          have hJl : J < len := by have := HJI.out; have := HIB.out; omega
          have hKl : K < len := by omega
          have q1 : decide ((a : Int) < (J : Int)) = true := decide_eq_true (by omega)
          have q2 : decide (a < J) = true := decide_eq_true (by omega)
          have p1 : (0 ≤ (J : Int)) = True := eq_true (by omega)
          have p2 : ((J : Int) < (len : Int)) = True := eq_true (by omega)
          have p3 : (J < len) = True := eq_true hJl
          have p4 : (0 ≤ (K : Int)) = True := eq_true (by omega)
          have p5 : ((K : Int) < (len : Int)) = True := eq_true (by omega)
          have p6 : (K < len) = True := eq_true hKl
          have HJ := Aside0.mk (show J < xs2.length by rw [HL.out]; exact hJl)
          have HK := Aside0.mk (show K < xs2.length by rw [HL.out]; exact hKl)
          have w1 : wrap64 ((J : Int) - 1) = (K : Int) := by unfold wrap64; omega
          have w2_ : IntKind.i64.wrap ((J : Int) - 1) = (K : Int) := by rw [i64_w]; exact w1
          rw [← hJ] at HR2 ⊢
          have HJK := Aside0.mk (And.intro hJ hK)
          have HJA := Aside0.mk hja
          obtain ⟨cv, hcv⟩ : ∃ c, c = cmpD (rd_T43 xs2 (J : Int)) (rd_T43 xs2 (K : Int)) := ⟨_, rfl⟩
          have HCV := Aside0.mk hcv
          have HRI := Aside0.mk (show insI a J xs2 = if cv < 0 then insI a K (swap2 xs2 J K) else xs2 by
            rw [hcv, hJ, hK, insI, if_pos (by omega)])
          clear hcv
          have r0 : wr.cell? ⟨pb, J * 2, none⟩ = some (.int .i64 (rd_T43 xs2 (J : Int)).f0) := (blk_cell HC.out _).trans (HH.out.f0 J HJ.out)
          have r1 : wr.cell? ⟨pb, J * 2 + 1, none⟩ = some (.int .i64 (rd_T43 xs2 (J : Int)).f1) := (blk_cell HC.out _).trans (HH.out.f1 J HJ.out)
          have r2 : wr.cell? ⟨pb, K * 2, none⟩ = some (.int .i64 (rd_T43 xs2 (K : Int)).f0) := (blk_cell HC.out _).trans (HH.out.f0 K HK.out)
          have r3 : wr.cell? ⟨pb, K * 2 + 1, none⟩ = some (.int .i64 (rd_T43 xs2 (K : Int)).f1) := (blk_cell HC.out _).trans (HH.out.f1 K HK.out)
          clear hJ hK hJl hKl hja
          go_upto_region 4 with fail
          go_region_held3 (fun w' => (w'.cell? ⟨pb, J * 2, none⟩ = some (.int .i64 (rd_T43 xs2 (J : Int)).f0) ∧ w'.cell? ⟨pb, J * 2 + 1, none⟩ = some (.int .i64 (rd_T43 xs2 (J : Int)).f1)) ∧ w'.cell? ⟨pb, K * 2, none⟩ = some (.int .i64 (rd_T43 xs2 (K : Int)).f0) ∧ w'.cell? ⟨pb, K * 2 + 1, none⟩ = some (.int .i64 (rd_T43 xs2 (K : Int)).f1)) (exact ⟨⟨r0, r1⟩, r2, r3⟩) (first
            | (go_at_call 54; (with_reducible refine (cmpD.calls (rd_T43 xs2 (J : Int)) (rd_T43 xs2 (K : Int)) _).mono ?_); rw [← HCV.out]; rintro e w2 ⟨rfl, hb⟩; have HC9 := Aside0.mk (blk_below (by first | exact HC.out | exact blk_drew HC.out) hb); have HP9 := Aside0.mk (HBP.out.trans (Bp.below pb (by first | exact hb | exact below_of_drew hb))); clear HC HBP hb r0 r1 r2 r3; have HC := HC9; have HBP := HP9; clear HC9 HP9; have r0 : w2.cell? ⟨pb, J * 2, none⟩ = some (.int .i64 (rd_T43 xs2 (J : Int)).f0) := (blk_cell HC.out _).trans (HH.out.f0 J HJ.out); have r1 : w2.cell? ⟨pb, J * 2 + 1, none⟩ = some (.int .i64 (rd_T43 xs2 (J : Int)).f1) := (blk_cell HC.out _).trans (HH.out.f1 J HJ.out); have r2 : w2.cell? ⟨pb, K * 2, none⟩ = some (.int .i64 (rd_T43 xs2 (K : Int)).f0) := (blk_cell HC.out _).trans (HH.out.f0 K HK.out); have r3 : w2.cell? ⟨pb, K * 2 + 1, none⟩ = some (.int .i64 (rd_T43 xs2 (K : Int)).f1) := (blk_cell HC.out _).trans (HH.out.f1 K HK.out)))
          clear r0 r1 r2 r3
          by_cases hcmp : cv < 0
          · have HN := Aside0.mk (HR2.out.symm.trans (HRI.out.trans (if_pos hcmp)))
            have k1 : decide (cv < 0) = true := decide_eq_true hcmp
            rw [k1]
            have k2 := eq_true hcmp
            clear hcmp HR2 HRI
            go_upto_region 6 with fail
            obtain ⟨⟨⟨r0, r1⟩, ⟨r2, r3⟩, fz⟩, ⟨⟨r4, r5⟩, ⟨r6, r7⟩, fz2, fz3⟩, st, ⟨cur3, hc3, hh3⟩, hp3⟩ := swap_facts HC.out HH.out J K HJ.out HK.out
            have HC3 := Aside0.mk hc3
            have HH3 := Aside0.mk hh3
            have HP3 := Aside0.mk (HBP.out.trans hp3)
            clear hc3 hh3 hp3
            go_big_region_o
            clear r0 r1 r2 r3 r4 r5 r6 r7 fz fz2 fz3 st
            go_wp2
            go_roundg K
            case measure => have := HJK.out; omega
            case rel => exact ⟨swap2 xs2 J K, cur3, by first | rfl | (congr 1; have := HJK.out; omega), ⟨by have := HJI.out; have := HJK.out; omega⟩, ⟨HN.out.symm⟩, ⟨by rw [swap2_len]; exact HL.out⟩, HC3, HH3, HP3⟩
          · have HN := Aside0.mk (HR2.out.symm.trans (HRI.out.trans (if_neg hcmp)))
            have k1 : decide (cv < 0) = false := decide_eq_false hcmp
            rw [k1]
            have k2 := eq_false hcmp
            clear hcmp HR2 HRI
            go_wp2
            go_roundg d
            case measure => omega
            case rel => exact ⟨i + 1, xs2, _, rfl, ⟨by have := HA.out; omega⟩, ⟨by have := HI.out; omega⟩, ⟨by rw [← HR.out, insO, HN.out]⟩, HL, HC, HH, HBP⟩
        · have q1 : decide ((a : Int) < (gk : Int)) = false := decide_eq_false (by omega)
          have q2 : decide (a < gk) = false := decide_eq_false hja
          have HN := Aside0.mk (show insI a i xs1 = xs2 by
            rw [← HR2.out]
            cases gk with
            | zero => rfl
            | succ g => rw [insI, if_neg hja])
          clear hja HR2
          go_upto_region 4 with fail
          go_quiet (fail)
          go_wp2
          go_roundg d
          case measure => omega
          case rel => exact ⟨i + 1, xs2, cur2, rfl, ⟨by have := HA.out; omega⟩, ⟨by have := HI.out; omega⟩, ⟨by rw [← HR.out, insO, HN.out]⟩, HL, ⟨by first | exact HC.out | exact blk_drewN HC.out _⟩, HH, ⟨by first | exact HBP.out | exact HBP.out.drewN _⟩⟩
end Go.Proofs.Ytacmfgbeaoalfaa.QFnDartsFinish
