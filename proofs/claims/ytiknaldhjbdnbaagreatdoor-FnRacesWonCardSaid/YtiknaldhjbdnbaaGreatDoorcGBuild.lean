/- strings.Replacer.build at the pairs a, b and b, a. -/
import Derived.Test.YtiknaldhjbdnbaaGreatDoorcGOnce
import Derived.Laws.Tables
import Derived.Laws.CopyOwn
namespace Go.Proofs.YtiknaldhjbdnbaaGreatDoor.PFnExactTurnPlay
open Go.RowKit Go.Proofs.YtiknaldhjbdnbaaGreatDoorW.PrintWords Go.Proofs.YtiknaldhjbdnbaaGreatDoorW.PrintLast Go.Proofs.YtiknaldhjbdnbaaGreatDoorW.PrintMore
set_option linter.unusedVariables false
set_option linter.unusedSimpArgs false
theorem w64_of {x : Int} (h0 : -9223372036854775808 ≤ x) (h1 : x < 9223372036854775808) : wrap64 x = x := by unfold wrap64; omega
def tr (k : Int) : Int := if k = 97 then 98 else if k = 98 then 97 else k
def IsTab (w : World) (g : Nat) : Prop := ∃ cs, w.heap[g]? = some (.cells cs 127 (0, 0)) ∧ cs.size = 256 ∧ ∀ k : Nat, k < 256 → cs[k]? = some (.int .u8 (tr k))
theorem set_next {cs : Array Value} {j : Int} {n : Nat} (h0 : 0 ≤ j) (hn : j < n) (hs : cs.size = n) (hv : ∀ k : Nat, (k : Int) < j → cs[k]? = some (.int .u8 k)) (k : Nat) (hk : (k : Int) < j + 1) :
    (cs.setIfInBounds j.toNat (.int .u8 j))[k]? = some (.int .u8 k) := by
  by_cases e : k = j.toNat
  · subst e
    rw [Array.getElem?_setIfInBounds_self_of_lt (by omega), show ((j.toNat : Nat) : Int) = j by omega]
  · rw [Array.getElem?_setIfInBounds_ne (by omega)]
    exact hv k (by omega)
theorem tab_of {w : World} {g : Nat} {cs : Array Value} (hg : w.heap[g]? = some (.cells cs 127 (0, 0))) (hs : cs.size = 256) (hv : ∀ k : Nat, (k : Int) < 256 → cs[k]? = some (.int .u8 k)) :
    IsTab ((w.setCell ⟨g, 98, none⟩ (.int .u8 97)).setCell ⟨g, 97, none⟩ (.int .u8 98)) g := by
  refine ⟨_, blk_set (blk_set hg 98 _) 97 _, by simp [hs], fun k hk => ?_⟩
  by_cases e : k = 97
  · subst e
    rw [Array.getElem?_setIfInBounds_self_of_lt (by simp [hs])]
    rfl
  · rw [Array.getElem?_setIfInBounds_ne (by omega)]
    by_cases e' : k = 98
    · subst e'
      rw [Array.getElem?_setIfInBounds_self_of_lt (by omega)]
      rfl
    · rw [Array.getElem?_setIfInBounds_ne (by omega), hv k (by omega)]
      unfold tr
      rw [if_neg (by omega), if_neg (by omega)]
theorem zero_size : Tryz.zeroCells127.size = 256 := by kernel_rfl
theorem zero_one : Tryz.zeroCells127.all (·.oneCell') = true := by kernel_rfl
theorem store_zero (w : World) : (storeCells ⟨w.heap.size, 0, none⟩ Tryz.zeroCells127.toList).run Tryz.prog (w.alloc (.cells Tryz.zeroCells127 127)) = .ok () ((w.alloc (.cells Tryz.zeroCells127 127)).setRow w.heap.size Tryz.zeroCells127) := by
  have h := run_storeCells_from (P := Tryz.prog) w.heap.size 127 Tryz.zeroCells127.toList 0 Tryz.zeroCells127 (w.alloc (.cells Tryz.zeroCells127 127 (0, 0))) (blk_new w _) (by simp) (fun v hv => (Array.all_eq_true_iff_forall_mem.1 zero_one) v (by simpa using hv))
  simpa using h
set_option maxHeartbeats 4000000 in
set_option maxRecDepth 100000 in
theorem build.calls (w : World) (b oo c : Nat) (hs : w.cell? ⟨b, 4, none⟩ = some (.slice (some ⟨oo, 0, none⟩) 4 c)) (h0 : w.cell? ⟨oo, 0, none⟩ = some (.string ⟨#[97]⟩)) (h1 : w.cell? ⟨oo, 1, none⟩ = some (.string ⟨#[98]⟩)) (h2 : w.cell? ⟨oo, 2, none⟩ = some (.string ⟨#[98]⟩)) (h3 : w.cell? ⟨oo, 3, none⟩ = some (.string ⟨#[97]⟩)) :
    Calls Tryz.prog 76 #[.pointer (some ⟨b, 0, none⟩)] w fun e w' => e = .returned (.iface 128 (.pointer (some ⟨w.heap.size, 0, none⟩))) ∧ IsTab w' w.heap.size ∧ Below w.heap.size w w' := by
  have hst := store_zero w
  go_enter Tryz.func76, Tryz.ntmps76
  go_wp2
  refine wp_loop_rounds 3 ?_
  rw [rounds_succ]
  go_wp2
  rw [rounds_succ]
  go_wp2
  rw [rounds_succ]
  go_wp2
  go_loopg [61] 256 (fun kq v61 w' => ∃ (j : Int) (cs : Array Value), v61 = .int .i64 j ∧ Aside0 (0 ≤ j ∧ j + kq = 256) ∧ Aside0 (w'.heap[w.heap.size]? = some (.cells cs 127 (0, 0))) ∧ Aside0 (cs.size = 256) ∧ Aside0 (∀ k : Nat, (k : Int) < j → cs[k]? = some (.int .u8 k)) ∧ Aside0 (Below w.heap.size w w'))
  case atStart => exact ⟨0, Tryz.zeroCells127, rfl, ⟨by omega⟩, ⟨setRow_heap _ _ _ _ _ _ (blk_new w _)⟩, ⟨zero_size⟩, ⟨fun k hk => by omega⟩, ⟨below_setRow (below_alloc (Below.refl _ w) _) (Nat.le_refl _) _⟩⟩
  case round =>
    obtain ⟨j, cs, rfl, HJ, HG, HS, HV, HB⟩ := hrel
    by_cases hc : j < 256
    · have hcd : decide (j < 256) = true := decide_eq_true hc
      have hw : IntKind.i64.wrap (j + 1) = j + 1 := by rw [i64_w, w64_of (by have := HJ.out; omega) (by omega)]
      have hu : IntKind.u8.wrap j = j := by have := HJ.out; show j % 256 = j; omega
      have fx := blk_frozen HG.out j.toNat
      have cx : ∃ o, wr.cell? ⟨w.heap.size, j.toNat, none⟩ = some o := by
        rw [blk_cell HG.out]
        exact ⟨_, Array.getElem?_eq_getElem (by have := HS.out; have := HJ.out; omega)⟩
      obtain ⟨o, cx⟩ := cx
      have h0j : 0 ≤ j := HJ.out.1
      have hn := set_next h0j (by omega) HS.out HV.out
      have HN := Aside0.mk hn
      clear hn
      go_wp2
      go_roundg (gk - 1)
      case measure => have := HJ.out; omega
      case rel => exact ⟨j + 1, _, rfl, ⟨by have := HJ.out; omega⟩, ⟨blk_set HG.out j.toNat _⟩, ⟨by have := HS.out; simpa using this⟩, HN, ⟨HB.out.setCell (p := ⟨w.heap.size, j.toNat, none⟩) (Nat.le_refl _) _⟩⟩
    · have hcd : decide (j < 256) = false := decide_eq_false hc
      have hj : j = 256 := by have := HJ.out; omega
      have HV2 : Aside0 (∀ k : Nat, (k : Int) < 256 → cs[k]? = some (.int .u8 k)) := ⟨by have := HV.out; rw [hj] at this; exact this⟩
      have hs' := pw_cell_below HB.out hs
      have h0' := pw_cell_below HB.out h0
      have h1' := pw_cell_below HB.out h1
      have h2' := pw_cell_below HB.out h2
      have h3' := pw_cell_below HB.out h3
      have f97 := blk_frozen HG.out 97
      have f98 := blk_frozen HG.out 98
      have c97 : wr.cell? ⟨w.heap.size, 97, none⟩ = some (.int .u8 97) := by rw [blk_cell HG.out, HV2.out 97 (by omega)]; rfl
      have c98 : wr.cell? ⟨w.heap.size, 98, none⟩ = some (.int .u8 98) := by rw [blk_cell HG.out, HV2.out 98 (by omega)]; rfl
      have hne : oo ≠ w.heap.size := by have := World.block_lt_of_cell? w _ h0; simp at this; omega
      have hne' : w.heap.size ≠ oo := Ne.symm hne
      have e97 : ∀ h, ((({data := #[97]} : ByteArray)[0]'h).toNat : Int) = 97 := fun _ => rfl
      have e98 : ∀ h, ((({data := #[98]} : ByteArray)[0]'h).toNat : Int) = 98 := fun _ => rfl
      go_wp2
      refine wp_loop_rounds 3 ?_
      rw [rounds_succ]
      go_wp2
      rw [rounds_succ]
      go_wp2
      rw [rounds_succ]
      go_wp2
      go_ret
      exact ⟨rfl, tab_of HG.out HS.out HV2.out, (HB.out.setCell (p := ⟨w.heap.size, 98, none⟩) (Nat.le_refl _) _).setCell (p := ⟨w.heap.size, 97, none⟩) (Nat.le_refl _) _⟩
end Go.Proofs.YtiknaldhjbdnbaaGreatDoor.PFnExactTurnPlay
