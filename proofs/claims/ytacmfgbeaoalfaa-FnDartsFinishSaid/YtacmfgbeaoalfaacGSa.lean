/- slices' swapRangeCmpFunc at darts, walked over the row's whole block. Condition: both ranges lie in the row. -/
import Derived.Test.YtacmfgbeaoalfaacGSco
import Derived.StillTailTactics
import Derived.Laws.IdiomCopy
import Derived.Shelf.RegionOpenPlain
import Derived.BigQuiet
namespace Go.Proofs.Ytacmfgbeaoalfaa.QFnDartsFinish
open Go.RowKit Go.Proofs.YtacmfgbeaoalfaaW.PrintWords Go.Proofs.YtacmfgbeaoalfaaW.PrintLast Go.Proofs.YtacmfgbeaoalfaaW.PrintMore
set_option linter.unusedVariables false
set_option linter.unusedSimpArgs false
structure Bp (pb : Nat) (w w' : World) : Prop where
  os : w'.os = w.os
  tape : w'.tape = w.tape
  output : w'.output = w.output
  size : w.heap.size ≤ w'.heap.size
  block : ∀ i, i < w.heap.size → i ≠ pb → w'.heap[i]? = w.heap[i]?
theorem Bp.rfl_ (pb : Nat) (w : World) : Bp pb w w := ⟨rfl, rfl, rfl, Nat.le_refl _, fun _ _ _ => rfl⟩
theorem Bp.drew {pb : Nat} {w w' : World} (h : Bp pb w w') : Bp pb w w'.drew := ⟨h.os, h.tape, h.output, h.size, h.block⟩
theorem Bp.drewN {pb : Nat} {w w' : World} (h : Bp pb w w') (n : Nat) : Bp pb w (w'.drewN n) := ⟨h.os, h.tape, h.output, h.size, h.block⟩
theorem Bp.trans {pb : Nat} {w w' w2 : World} (h : Bp pb w w') (k : Bp pb w' w2) : Bp pb w w2 := ⟨k.os.trans h.os, k.tape.trans h.tape, k.output.trans h.output, Nat.le_trans h.size k.size, fun i hi hp => (k.block i (Nat.lt_of_lt_of_le hi h.size) hp).trans (h.block i hi hp)⟩
theorem Bp.set {pb : Nat} {w w' : World} (h : Bp pb w w') (i : Nat) (u : Value) : Bp pb w (w'.setCell ⟨pb, i, none⟩ u) := ⟨h.os, h.tape, h.output, by simpa [World.setCell] using h.size, fun j hj hp => (Below.heap_setCell w' ⟨pb, i, none⟩ u j hp).trans (h.block j hj hp)⟩
theorem Bp.under {pb : Nat} {wL w w' : World} (h : Below wL.heap.size wL w) (k : Bp pb w w') (hp : wL.heap.size ≤ pb) : Below wL.heap.size wL w' := ⟨k.os.trans h.os, k.tape.trans h.tape, k.output.trans h.output, Nat.le_trans h.size k.size, fun i hi => (k.block i (Nat.lt_of_lt_of_le hi h.size) (by omega)).trans (h.block i hi)⟩
structure HoldsD (cp : Nat) (cur : Array Value) (xs : List S43) : Prop where
  sz : cur.size = cp * 2
  le : xs.length ≤ cp
  f0 : ∀ i : Nat, i < xs.length → cur[i * 2]? = some (.int .i64 (rd_T43 xs (i : Int)).f0)
  f1 : ∀ i : Nat, i < xs.length → cur[i * 2 + 1]? = some (.int .i64 (rd_T43 xs (i : Int)).f1)
theorem rdD_set (xs : List S43) (i j : Nat) (d : S43) (hi : i < xs.length) : rd_T43 (xs.set i d) (j : Int) = if j = i then d else rd_T43 xs (j : Int) := by
  unfold rd_T43
  by_cases e : j = i
  · subst e
    rw [if_pos rfl, Int.toNat_natCast, List.getD_eq_getElem?_getD, List.getElem?_set_self hi]
    rfl
  · rw [if_neg e, Int.toNat_natCast, List.getD_eq_getElem?_getD, List.getD_eq_getElem?_getD, List.getElem?_set_ne (fun q => e q.symm)]
theorem HoldsD.set {cp : Nat} {cur : Array Value} {xs : List S43} (h : HoldsD cp cur xs) (i : Nat) (d : S43) (hi : i < xs.length) : HoldsD cp ((cur.setIfInBounds (i * 2) (.int .i64 d.f0)).setIfInBounds (i * 2 + 1) (.int .i64 d.f1)) (xs.set i d) := by
  have hs := h.sz
  have hl := h.le
  refine ⟨by rw [Array.size_setIfInBounds, Array.size_setIfInBounds]; exact hs, by rw [List.length_set]; exact hl, fun j hj => ?_, fun j hj => ?_⟩
  · rw [List.length_set] at hj
    rw [rdD_set xs i j d hi, Array.getElem?_setIfInBounds_ne (by omega)]
    by_cases e : j = i
    · subst e
      rw [if_pos rfl, Array.getElem?_setIfInBounds_self_of_lt (by omega)]
    · rw [if_neg e, Array.getElem?_setIfInBounds_ne (by omega)]
      exact h.f0 j hj
  · rw [List.length_set] at hj
    rw [rdD_set xs i j d hi]
    by_cases e : j = i
    · subst e
      rw [if_pos rfl, Array.getElem?_setIfInBounds_self_of_lt (by rw [Array.size_setIfInBounds]; omega)]
    · rw [if_neg e, Array.getElem?_setIfInBounds_ne (by omega), Array.getElem?_setIfInBounds_ne (by omega)]
      exact h.f1 j hj
def swap2 (xs : List S43) (i j : Nat) : List S43 := (xs.set i (rd_T43 xs (j : Int))).set j (rd_T43 xs (i : Int))
theorem swap2_len (xs : List S43) (i j : Nat) : (swap2 xs i j).length = xs.length := by unfold swap2; rw [List.length_set, List.length_set]
def swpF (a b : Nat) : Nat → Nat → List S43 → List S43
  | 0, _, xs => xs
  | d + 1, i, xs => swpF a b d (i + 1) (swap2 xs (a + i) (b + i))
theorem swpF_len (a b d : Nat) : ∀ i xs, (swpF a b d i xs).length = xs.length := by
  induction d with
  | zero => intro i xs; rfl
  | succ d ih => intro i xs; rw [swpF, ih, swap2_len]
theorem wrap_ok {x y : Int} (h : x = y) (h0 : -9223372036854775808 ≤ y) (h1 : y ≤ 9223372036854775807) : wrap64 x = y := by subst h; unfold wrap64; omega
theorem store2 (P : Program) (pb o : Nat) (v0 v1 : Int) (t : TypeId) (cur : Array Value) (W : World) (h : W.heap[pb]? = some (.cells cur t (0, 0))) (hs : o + 2 ≤ cur.size) : Sem.run P (storeCells ⟨pb, o, none⟩ [.int .i64 v0, .int .i64 v1]) W = .ok () ((W.setCell ⟨pb, o, none⟩ (.int .i64 v0)).setCell ⟨pb, o + 1, none⟩ (.int .i64 v1)) := by
  have := run_storeCells_cells (P := P) pb o [.int .i64 v0, .int .i64 v1] 0 W (fun j hj => by
    rw [blk_cell h]
    simp only [List.length_cons, List.length_nil] at hj
    rw [Array.getElem?_eq_getElem (by omega)]
    rfl) (fun j _ => blk_frozen h _) (fun v hv => by
    simp only [List.mem_cons, List.not_mem_nil, or_false] at hv
    rcases hv with rfl | rfl <;> rfl)
  exact this
set_option maxHeartbeats 8000000 in
set_option maxRecDepth 100000 in
theorem swapRange.calls (pb cap len a b n : Nat) (ha : a + n ≤ len) (hb : b + n ≤ len) (hlen : len ≤ 1000) (xs : List S43) (cur : Array Value) (w : World) (hl : xs.length = len) (hc : w.heap[pb]? = some (.cells cur 43 (0, 0))) (hh : HoldsD cap cur xs) :
    Calls Try.prog 69 #[.slice (some ⟨pb, 0, none⟩) len cap, .int .i64 (a : Int), .int .i64 (b : Int), .int .i64 (n : Int), .func (.func 54) #[] #[]] w fun e w' => e = .returned (.tuple #[]) ∧ Bp pb w w' ∧ ∃ cur', w'.heap[pb]? = some (.cells cur' 43 (0, 0)) ∧ HoldsD cap cur' (swpF a b n 0 xs) := by
  have hu43 := Try.underlying43
  have HL := Aside0.mk hl
  have HC := Aside0.mk hc
  have HH := Aside0.mk hh
  have HBP := Aside0.mk (Bp.rfl_ pb w)
  clear hl hc hh
  go_enter Try.func69, Try.ntmps69
  go_wp2
  go_loopg [10] n (fun kq v10 w' => ∃ (i : Nat) (xs' : List S43) (cur' : Array Value), v10 = .int .i64 (i : Int) ∧ Aside0 (i + kq = n) ∧ Aside0 (swpF a b kq i xs' = swpF a b n 0 xs) ∧ Aside0 (xs'.length = len) ∧ Aside0 (w'.heap[pb]? = some (.cells cur' 43 (0, 0))) ∧ Aside0 (HoldsD cap cur' xs') ∧ Aside0 (Bp pb w w'))
  case atStart => exact ⟨0, xs, cur, rfl, ⟨by omega⟩, ⟨rfl⟩, HL, HC, HH, HBP⟩
  case round =>
    clear HL HC HH HBP
    obtain ⟨i, xs1, cur1, rfl, HI, HR, HL, HC, HH, HBP⟩ := hrel
    cases gk with
    | zero =>
      have c0 : decide ((i : Int) < (n : Int)) = false := decide_eq_false (by have := HI.out; omega)
      have c1 : decide (i < n) = false := decide_eq_false (by have := HI.out; omega)
      go_wp2
      go_end0
      rw [← HR.out]
      exact ⟨rfl, HBP.out, cur1, HC.out, HH.out⟩
    | succ d =>
      have hi : i < n := by have := HI.out; omega
      have c0 : decide ((i : Int) < (n : Int)) = true := decide_eq_true (by omega)
      have c1 : decide (i < n) = true := decide_eq_true hi
      obtain ⟨J, hJ⟩ : ∃ J : Nat, J = a + i := ⟨_, rfl⟩
      obtain ⟨K, hK⟩ : ∃ K : Nat, K = b + i := ⟨_, rfl⟩
      have hJ0 : J < len := by omega
      have hK0 : K < len := by omega
      have hJ1 : J < xs1.length := by rw [HL.out]; exact hJ0
      have hK1 : K < xs1.length := by rw [HL.out]; exact hK0
      have r0 : wr.cell? ⟨pb, J * 2, none⟩ = some (.int .i64 (rd_T43 xs1 (J : Int)).f0) := (blk_cell HC.out _).trans (HH.out.f0 J hJ1)
      have r1 : wr.cell? ⟨pb, J * 2 + 1, none⟩ = some (.int .i64 (rd_T43 xs1 (J : Int)).f1) := (blk_cell HC.out _).trans (HH.out.f1 J hJ1)
      have r2 : wr.cell? ⟨pb, K * 2, none⟩ = some (.int .i64 (rd_T43 xs1 (K : Int)).f0) := (blk_cell HC.out _).trans (HH.out.f0 K hK1)
      have r3 : wr.cell? ⟨pb, K * 2 + 1, none⟩ = some (.int .i64 (rd_T43 xs1 (K : Int)).f1) := (blk_cell HC.out _).trans (HH.out.f1 K hK1)
      have p1 : (0 ≤ (J : Int)) = True := eq_true (by omega)
      have p2 : ((J : Int) < (len : Int)) = True := eq_true (by omega)
      have p3 : (J < len) = True := eq_true hJ0
      have p4 : (0 ≤ (K : Int)) = True := eq_true (by omega)
      have p5 : ((K : Int) < (len : Int)) = True := eq_true (by omega)
      have p6 : (K < len) = True := eq_true hK0
      have w1 : wrap64 ((a : Int) + (i : Int)) = (J : Int) := by exact wrap_ok (by omega) (by omega) (by omega)
      have w2 : IntKind.i64.wrap ((a : Int) + (i : Int)) = (J : Int) := by rw [i64_w]; exact w1
      have w3 : wrap64 ((b : Int) + (i : Int)) = (K : Int) := by exact wrap_ok (by omega) (by omega) (by omega)
      have w4 : IntKind.i64.wrap ((b : Int) + (i : Int)) = (K : Int) := by rw [i64_w]; exact w3
      have w5 : wrap64 ((i : Int) + 1) = (i : Int) + 1 := by exact wrap_ok (by omega) (by omega) (by omega)
      have w6 : IntKind.i64.wrap ((i : Int) + 1) = (i : Int) + 1 := by rw [i64_w]; exact w5
      have fz := blk_frozen HC.out
      have HJK := Aside0.mk (And.intro hJ hK)
      clear hJ hK hJ0 hK0 hi
      have HJ1 := Aside0.mk hJ1
      have HK1 := Aside0.mk hK1
      clear hJ1 hK1
      have H1 := HH.out.set J (rd_T43 xs1 (K : Int)) HJ1.out
      have B1 := blk_set (blk_set HC.out (J * 2) (.int .i64 (rd_T43 xs1 (K : Int)).f0)) (J * 2 + 1) (.int .i64 (rd_T43 xs1 (K : Int)).f1)
      have r4 : ((wr.setCell ⟨pb, J * 2, none⟩ (.int .i64 (rd_T43 xs1 (K : Int)).f0)).setCell ⟨pb, J * 2 + 1, none⟩ (.int .i64 (rd_T43 xs1 (K : Int)).f1)).drew.cell? ⟨pb, K * 2, none⟩ = some (.int .i64 (rd_T43 (xs1.set J (rd_T43 xs1 (K : Int))) (K : Int)).f0) := (blk_cell B1 _).trans (H1.f0 K (by rw [List.length_set]; exact HK1.out))
      have r5 : ((wr.setCell ⟨pb, J * 2, none⟩ (.int .i64 (rd_T43 xs1 (K : Int)).f0)).setCell ⟨pb, J * 2 + 1, none⟩ (.int .i64 (rd_T43 xs1 (K : Int)).f1)).drew.cell? ⟨pb, K * 2 + 1, none⟩ = some (.int .i64 (rd_T43 (xs1.set J (rd_T43 xs1 (K : Int))) (K : Int)).f1) := (blk_cell B1 _).trans (H1.f1 K (by rw [List.length_set]; exact HK1.out))
      have fz2 : ∀ i, ((wr.setCell ⟨pb, J * 2, none⟩ (.int .i64 (rd_T43 xs1 (K : Int)).f0)).setCell ⟨pb, J * 2 + 1, none⟩ (.int .i64 (rd_T43 xs1 (K : Int)).f1)).drew.frozen? ⟨pb, i, none⟩ = false := fun i => blk_frozen B1 i
      obtain ⟨dJ0, hJ0⟩ : ∃ z, z = (rd_T43 xs1 (J : Int)).f0 := ⟨_, rfl⟩
      obtain ⟨dJ1, hJ1⟩ : ∃ z, z = (rd_T43 xs1 (J : Int)).f1 := ⟨_, rfl⟩
      have r6 : ((wr.setCell ⟨pb, J * 2, none⟩ (.int .i64 (rd_T43 xs1 (K : Int)).f0)).setCell ⟨pb, J * 2 + 1, none⟩ (.int .i64 (rd_T43 xs1 (K : Int)).f1)).cell? ⟨pb, K * 2, none⟩ = _ := r4
      have r7 : ((wr.setCell ⟨pb, J * 2, none⟩ (.int .i64 (rd_T43 xs1 (K : Int)).f0)).setCell ⟨pb, J * 2 + 1, none⟩ (.int .i64 (rd_T43 xs1 (K : Int)).f1)).cell? ⟨pb, K * 2 + 1, none⟩ = _ := r5
      have fz3 : ∀ i, ((wr.setCell ⟨pb, J * 2, none⟩ (.int .i64 (rd_T43 xs1 (K : Int)).f0)).setCell ⟨pb, J * 2 + 1, none⟩ (.int .i64 (rd_T43 xs1 (K : Int)).f1)).frozen? ⟨pb, i, none⟩ = false := fun i => blk_frozen B1 i
      have st : Sem.run Try.prog (storeCells ⟨pb, K * 2, none⟩ [.int .i64 (rd_T43 xs1 (J : Int)).f0, .int .i64 (rd_T43 xs1 (J : Int)).f1]) ((wr.setCell ⟨pb, J * 2, none⟩ (.int .i64 (rd_T43 xs1 (K : Int)).f0)).setCell ⟨pb, J * 2 + 1, none⟩ (.int .i64 (rd_T43 xs1 (K : Int)).f1)).drew = .ok () ((((wr.setCell ⟨pb, J * 2, none⟩ (.int .i64 (rd_T43 xs1 (K : Int)).f0)).setCell ⟨pb, J * 2 + 1, none⟩ (.int .i64 (rd_T43 xs1 (K : Int)).f1)).setCell ⟨pb, K * 2, none⟩ (.int .i64 (rd_T43 xs1 (J : Int)).f0)).setCell ⟨pb, K * 2 + 1, none⟩ (.int .i64 (rd_T43 xs1 (J : Int)).f1)).drew := by
        have hsz := H1.sz
        have hle := H1.le
        have hK2 := HK1.out
        rw [List.length_set] at hle
        exact store2 Try.prog pb (K * 2) _ _ 43 _ _ (blk_drew B1) (by omega)
      have mixed : Try.prog.follows .mixedOrders = true := by kernel_rfl
      go_upto_region 3 with fail
      go_big_region_o
      have H2 := H1.set K (rd_T43 xs1 (J : Int)) (by rw [List.length_set]; exact HK1.out)
      have B2 := blk_drew (blk_set (blk_set B1 (K * 2) (.int .i64 (rd_T43 xs1 (J : Int)).f0)) (K * 2 + 1) (.int .i64 (rd_T43 xs1 (J : Int)).f1))
      have P2 := ((((HBP.out.set (J * 2) (.int .i64 (rd_T43 xs1 (K : Int)).f0)).set (J * 2 + 1) (.int .i64 (rd_T43 xs1 (K : Int)).f1)).set (K * 2) (.int .i64 (rd_T43 xs1 (J : Int)).f0)).set (K * 2 + 1) (.int .i64 (rd_T43 xs1 (J : Int)).f1)).drew
      clear r0 r1 r2 r3 r4 r5 r6 r7 fz fz2 fz3 st mixed B1 H1
      generalize ((((wr.setCell ⟨pb, J * 2, none⟩ (.int .i64 (rd_T43 xs1 (K : Int)).f0)).setCell ⟨pb, J * 2 + 1, none⟩ (.int .i64 (rd_T43 xs1 (K : Int)).f1)).setCell ⟨pb, K * 2, none⟩ (.int .i64 (rd_T43 xs1 (J : Int)).f0)).setCell ⟨pb, K * 2 + 1, none⟩ (.int .i64 (rd_T43 xs1 (J : Int)).f1)).drew = wz at B2 P2 ⊢
      have HB2 := Aside0.mk B2
      have HH2 := Aside0.mk H2
      have HP2 := Aside0.mk P2
      clear B2 H2 P2
      go_wp2
      go_roundg d
      case measure => omega
      case rel => exact ⟨i + 1, swap2 xs1 J K, _, by go_num, ⟨by have := HI.out; omega⟩, ⟨by rw [← HR.out, HJK.out.1, HJK.out.2]; rfl⟩, ⟨by rw [swap2_len]; exact HL.out⟩, HB2, HH2, HP2⟩
end Go.Proofs.Ytacmfgbeaoalfaa.QFnDartsFinish
