/- slices' rotateCmpFunc at darts, walked over the row's whole block. Condition: the ranges lie in the row. -/
import Derived.Test.YtacmfgbeaoalfaacGSa
namespace Go.Proofs.Ytacmfgbeaoalfaa.QFnDartsFinish
open Go.RowKit Go.Proofs.YtacmfgbeaoalfaaW.PrintWords Go.Proofs.YtacmfgbeaoalfaaW.PrintLast Go.Proofs.YtacmfgbeaoalfaaW.PrintMore
set_option linter.unusedVariables false
set_option linter.unusedSimpArgs false
def rotF (m : Nat) : Nat → Nat → Nat → List S43 → Option (List S43)
  | 0, _, _, _ => none
  | f + 1, i, j, xs => if i = j then some (swpF (m - i) m i 0 xs) else if j < i then rotF m f (i - j) j (swpF (m - i) m j 0 xs) else rotF m f i (j - i) (swpF (m - i) (m + j - i) i 0 xs)
theorem rotF_len (m f : Nat) : ∀ i j xs ys, rotF m f i j xs = some ys → ys.length = xs.length := by
  induction f with
  | zero => intro i j xs ys h; cases h
  | succ f ih =>
    intro i j xs ys h
    rw [rotF] at h
    split at h
    · rw [← Option.some.inj h, swpF_len]
    · split at h
      · rw [ih _ _ _ _ h, swpF_len]
      · rw [ih _ _ _ _ h, swpF_len]
set_option maxHeartbeats 8000000 in
set_option maxRecDepth 100000 in
theorem rotate.calls (pb cap len a m b : Nat) (ham : a ≤ m) (hmb : m ≤ b) (hb : b ≤ len) (hlen : len ≤ 1000) (fuel : Nat) (xs ys : List S43) (hf : rotF m fuel (m - a) (b - m) xs = some ys) (cur : Array Value) (w : World) (hl : xs.length = len) (hc : w.heap[pb]? = some (.cells cur 43 (0, 0))) (hh : HoldsD cap cur xs) :
    Calls Try.prog 68 #[.slice (some ⟨pb, 0, none⟩) len cap, .int .i64 (a : Int), .int .i64 (m : Int), .int .i64 (b : Int), .func (.func 54) #[] #[]] w fun e w' => e = .returned (.tuple #[]) ∧ Bp pb w w' ∧ ∃ cur', w'.heap[pb]? = some (.cells cur' 43 (0, 0)) ∧ HoldsD cap cur' ys := by
  have HL := Aside0.mk hl
  have HC := Aside0.mk hc
  have HH := Aside0.mk hh
  have HBP := Aside0.mk (Bp.rfl_ pb w)
  have HF := Aside0.mk hf
  clear hl hc hh hf
  obtain ⟨i0, hi0⟩ : ∃ x, x = m - a := ⟨_, rfl⟩
  obtain ⟨j0, hj0⟩ : ∃ x, x = b - m := ⟨_, rfl⟩
  rw [← hi0, ← hj0] at HF
  have HIM := Aside0.mk (show i0 ≤ m by omega)
  have HJM := Aside0.mk (show m + j0 ≤ len by omega)
  have HML := Aside0.mk (show m ≤ 1000 by omega)
  have w1 : wrap64 ((m : Int) - (a : Int)) = (i0 : Int) := by unfold wrap64; omega
  have w2 : IntKind.i64.wrap ((m : Int) - (a : Int)) = (i0 : Int) := by rw [i64_w]; exact w1
  have w3 : wrap64 ((b : Int) - (m : Int)) = (j0 : Int) := by clear w1 w2; unfold wrap64; omega
  have w4 : IntKind.i64.wrap ((b : Int) - (m : Int)) = (j0 : Int) := by rw [i64_w]; exact w3
  have HLE := Aside0.mk hlen
  clear hi0 hj0 ham hmb hb hlen
  go_enter Try.func68, Try.ntmps68
  go_wp2
  clear w1 w2 w3 w4
  go_loopg [10, 11] fuel (fun kq v10 v11 w' => ∃ (i j : Nat) (xs' : List S43) (cur' : Array Value), v10 = .int .i64 (i : Int) ∧ v11 = .int .i64 (j : Int) ∧ Aside0 (rotF m kq i j xs' = some ys) ∧ Aside0 (i ≤ m) ∧ Aside0 (m + j ≤ len) ∧ Aside0 (xs'.length = len) ∧ Aside0 (w'.heap[pb]? = some (.cells cur' 43 (0, 0))) ∧ Aside0 (HoldsD cap cur' xs') ∧ Aside0 (Bp pb w w'))
  case atStart => exact ⟨i0, j0, xs, cur, rfl, rfl, HF, HIM, HJM, HL, HC, HH, HBP⟩
  case round =>
    clear HL HC HH HBP HF HIM HJM
    obtain ⟨i, j, xs1, cur1, rfl, rfl, HF, HIM, HJM, HL, HC, HH, HBP⟩ := hrel
    cases gk with
    | zero => exact absurd HF.out (by simp [rotF])
    | succ f =>
      have H := HF.out
      rw [rotF] at H
      obtain ⟨X, hX⟩ : ∃ X, X = m - i := ⟨_, rfl⟩
      by_cases c : i = j
      · rw [if_pos c, ← hX] at H
        subst c
        have HZ := Aside0.mk (Option.some.inj H)
        have hcall := Aside0.mk (swapRange.calls pb cap len X m i (by have := HIM.out; have := HJM.out; omega) HJM.out HLE.out xs1 cur1)
        have w1 : wrap64 ((m : Int) - (i : Int)) = (X : Int) := by have := HIM.out; have := HML.out; unfold wrap64; omega
        have w2 : IntKind.i64.wrap ((m : Int) - (i : Int)) = (X : Int) := by rw [i64_w]; exact w1
        have c1 : ((i : Int) != (i : Int)) = false := by simp
        clear H hX HF
        go_wp2_with (go_at_call 69; (with_reducible refine (hcall.out _ HL.out ?sa HH.out).mono ?_); (case sa => first | exact HC.out | exact blk_drewN HC.out _); rintro e w5 ⟨rfl, hp, cur5, hc5, hh5⟩)
        go_end0
        rw [HZ.out] at hh5
        exact ⟨rfl, HBP.out.trans hp, cur5, hc5, hh5⟩
      · rw [if_neg c] at H
        have c1 : ((i : Int) == (j : Int)) = false := beq_eq_false_iff_ne.2 (by omega)
        have c2 : ((i : Int) != (j : Int)) = true := bne_iff_ne.2 (by omega)
        have c3 : ((i : Int) = (j : Int)) = False := eq_false (by omega)
        have c4 : (i = j) = False := eq_false c
        by_cases g : j < i
        · rw [if_pos g, ← hX] at H
          have HZ := Aside0.mk H
          have hcall := Aside0.mk (swapRange.calls pb cap len X m j (by have := HIM.out; have := HJM.out; omega) HJM.out HLE.out xs1 cur1)
          obtain ⟨Y, hY⟩ : ∃ Y, Y = i - j := ⟨_, rfl⟩
          have HY := Aside0.mk (show Y ≤ m by have := HIM.out; omega)
          rw [← hY] at HZ
          have g1 : decide ((j : Int) < (i : Int)) = true := decide_eq_true (by omega)
          have g2 : decide (j < i) = true := decide_eq_true g
          have w3 : wrap64 ((i : Int) - (j : Int)) = (Y : Int) := by have := HIM.out; have := HML.out; unfold wrap64; omega
          have w4 : IntKind.i64.wrap ((i : Int) - (j : Int)) = (Y : Int) := by rw [i64_w]; exact w3
          have w1 : wrap64 ((m : Int) - (i : Int)) = (X : Int) := by clear w3 w4; have := HIM.out; have := HML.out; unfold wrap64; omega
          have w2 : IntKind.i64.wrap ((m : Int) - (i : Int)) = (X : Int) := by rw [i64_w]; exact w1
          clear H hX HF hY g c
          go_wp2_with (go_at_call 69; (with_reducible refine (hcall.out _ HL.out ?sa HH.out).mono ?_); (case sa => first | exact HC.out | exact blk_drewN HC.out _); rintro e w5 ⟨rfl, hp, cur5, hc5, hh5⟩)
          go_roundg f
          case measure => omega
          case rel => exact ⟨Y, j, _, cur5, rfl, rfl, HZ, HY, HJM, ⟨by rw [swpF_len]; exact HL.out⟩, ⟨hc5⟩, ⟨hh5⟩, ⟨HBP.out.trans hp⟩⟩
        · rw [if_neg g, ← hX] at H
          obtain ⟨Z, hZ⟩ : ∃ Z, Z = m + j - i := ⟨_, rfl⟩
          obtain ⟨V, hV⟩ : ∃ V, V = m + j := ⟨_, rfl⟩
          rw [← hZ] at H
          have HZ := Aside0.mk H
          have hcall := Aside0.mk (swapRange.calls pb cap len X Z i (by have := HIM.out; have := HJM.out; omega) (by have := HIM.out; have := HJM.out; omega) HLE.out xs1 cur1)
          obtain ⟨Y, hY⟩ : ∃ Y, Y = j - i := ⟨_, rfl⟩
          rw [← hY] at HZ
          have HY := Aside0.mk (show m + Y ≤ len by have := HJM.out; omega)
          have g1 : decide ((j : Int) < (i : Int)) = false := decide_eq_false (by omega)
          have g2 : decide (j < i) = false := decide_eq_false g
          have w3 : wrap64 ((j : Int) - (i : Int)) = (Y : Int) := by have := HJM.out; have := HLE.out; unfold wrap64; omega
          have w4 : IntKind.i64.wrap ((j : Int) - (i : Int)) = (Y : Int) := by rw [i64_w]; exact w3
          have w1 : wrap64 ((m : Int) - (i : Int)) = (X : Int) := by clear w3 w4; have := HIM.out; have := HML.out; unfold wrap64; omega
          have w2 : IntKind.i64.wrap ((m : Int) - (i : Int)) = (X : Int) := by rw [i64_w]; exact w1
          have w5_ : wrap64 ((m : Int) + (j : Int)) = (V : Int) := by clear w3 w4 w1 w2; have := HJM.out; have := HLE.out; unfold wrap64; omega
          have w6 : IntKind.i64.wrap ((m : Int) + (j : Int)) = (V : Int) := by rw [i64_w]; exact w5_
          have w7 : wrap64 ((V : Int) - (i : Int)) = (Z : Int) := by clear w3 w4 w1 w2 w5_ w6; have := HIM.out; have := HJM.out; have := HLE.out; unfold wrap64; omega
          have w8 : IntKind.i64.wrap ((V : Int) - (i : Int)) = (Z : Int) := by rw [i64_w]; exact w7
          clear H hX HF hY g c hZ hV
          go_wp2_with (go_at_call 69; (with_reducible refine (hcall.out _ HL.out ?sa HH.out).mono ?_); (case sa => first | exact HC.out | exact blk_drewN HC.out _); rintro e w5 ⟨rfl, hp, cur5, hc5, hh5⟩)
          go_roundg f
          case measure => omega
          case rel => exact ⟨i, Y, _, cur5, rfl, rfl, HZ, HIM, HY, ⟨by rw [swpF_len]; exact HL.out⟩, ⟨hc5⟩, ⟨hh5⟩, ⟨HBP.out.trans hp⟩⟩
end Go.Proofs.Ytacmfgbeaoalfaa.QFnDartsFinish
