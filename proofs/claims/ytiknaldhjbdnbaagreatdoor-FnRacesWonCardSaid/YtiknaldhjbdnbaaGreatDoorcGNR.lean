/- strings.Replacer's Replace and strings.NewReplacer at the pairs a, b and b, a. -/
import Derived.Test.YtiknaldhjbdnbaaGreatDoorcGRep
namespace Go.Proofs.YtiknaldhjbdnbaaGreatDoor.PFnExactTurnPlay
open Go.RowKit Go.Proofs.YtiknaldhjbdnbaaGreatDoorW.PrintWords Go.Proofs.YtiknaldhjbdnbaaGreatDoorW.PrintLast Go.Proofs.YtiknaldhjbdnbaaGreatDoorW.PrintMore
set_option linter.unusedVariables false
set_option linter.unusedSimpArgs false
theorem method_replace (a : Addr) (w : World) : (method 308 128 (.pointer (some a)) "Replace").run Tryz.prog w = .ok (150, .pointer (some a)) w := by kernel_rfl
set_option maxHeartbeats 4000000 in
set_option maxRecDepth 100000 in
theorem replace.calls (w0 w : World) (b oo c : Nat) (s : ByteArray) (hn : (s.size : Int) < 9223372036854775807) (hB : Below w0.heap.size w0 w) (hge : w0.heap.size ≤ b) (hr : IsRep w b 0 0 .nilIface (.slice (some ⟨oo, 0, none⟩) 4 c)) (hoo : oo ≠ b) (h0 : w.cell? ⟨oo, 0, none⟩ = some (.string ⟨#[97]⟩)) (h1 : w.cell? ⟨oo, 1, none⟩ = some (.string ⟨#[98]⟩)) (h2 : w.cell? ⟨oo, 2, none⟩ = some (.string ⟨#[98]⟩)) (h3 : w.cell? ⟨oo, 3, none⟩ = some (.string ⟨#[97]⟩)) :
    Calls Tryz.prog 59 #[.pointer (some ⟨b, 0, none⟩), .string s] w fun e w' => e = .returned (.string (trS s)) ∧ Below w0.heap.size w0 w' := by
  have hm := method_replace
  go_enter Tryz.func59, Tryz.ntmps59
  go_wp2_with fail
  refine (do.calls w0 w b oo c hB hge hr hoo h0 h1 h2 h3).mono ?_
  rintro e w1 ⟨rfl, g, hR, hT, hB1⟩
  have c3 : w1.cell? ⟨b, 3, none⟩ = some (.iface 128 (.pointer (some ⟨g, 0, none⟩))) := blk_cell hR 3
  have HR := Aside0.mk hR
  have HT := Aside0.mk hT
  have HB1 := Aside0.mk hB1
  clear hR hT hB1
  go_wp2_with (go_at_call 150; refine (replaceTab.calls w1 g s hn HT.out).mono ?_; rintro e w2 ⟨rfl, hB2⟩; have HB2 := Aside0.mk (below_then HB1.out HB1.out.size hB2); clear hB2)
  go_ret
  exact ⟨rfl, HB2.out⟩
set_option maxHeartbeats 4000000 in
set_option maxRecDepth 100000 in
theorem newReplacer.calls (w : World) (oo c : Nat) (hoo : oo < w.heap.size) (h0 : w.cell? ⟨oo, 0, none⟩ = some (.string ⟨#[97]⟩)) (h1 : w.cell? ⟨oo, 1, none⟩ = some (.string ⟨#[98]⟩)) (h2 : w.cell? ⟨oo, 2, none⟩ = some (.string ⟨#[98]⟩)) (h3 : w.cell? ⟨oo, 3, none⟩ = some (.string ⟨#[97]⟩)) :
    Calls Tryz.prog 58 #[.slice (some ⟨oo, 0, none⟩) 4 c] w fun e w' => ∃ (g o2 c2 : Nat), e = .returned (.pointer (some ⟨g, 0, none⟩)) ∧ IsRep w' g 0 0 .nilIface (.slice (some ⟨o2, 0, none⟩) 4 c2) ∧ o2 ≠ g ∧ w'.cell? ⟨o2, 0, none⟩ = some (.string ⟨#[97]⟩) ∧ w'.cell? ⟨o2, 1, none⟩ = some (.string ⟨#[98]⟩) ∧ w'.cell? ⟨o2, 2, none⟩ = some (.string ⟨#[98]⟩) ∧ w'.cell? ⟨o2, 3, none⟩ = some (.string ⟨#[97]⟩) ∧ w.heap.size ≤ g ∧ Below w.heap.size w w' := by
  go_enter Tryz.func58, Tryz.ntmps58
  go_wp2_with fail
  go_ret
  have hz : ∀ o : Obj, (w.alloc o).heap.size = w.heap.size + 1 := fun o => by simp
  refine ⟨w.heap.size + 1, w.heap.size, (Question.appendCap 4 0 9).cut (w.tape w.drawn (Question.appendCap 4 0 9)), rfl, ?_, by omega, ?_, ?_, ?_, ?_, by omega, below_drew1 (below_alloc (below_alloc (Below.refl _ w) _) _)⟩
  · exact blk_drew (by rw [← hz]; exact blk_new _ _)
  · exact (blk_cell (blk_drew (blk_alloc (blk_new w _) _)) 0).trans (by rw [Array.getElem?_append_left (by simp)]; rfl)
  · exact (blk_cell (blk_drew (blk_alloc (blk_new w _) _)) 1).trans (by rw [Array.getElem?_append_left (by simp)]; rfl)
  · exact (blk_cell (blk_drew (blk_alloc (blk_new w _) _)) 2).trans (by rw [Array.getElem?_append_left (by simp)]; rfl)
  · exact (blk_cell (blk_drew (blk_alloc (blk_new w _) _)) 3).trans (by rw [Array.getElem?_append_left (by simp)]; rfl)
end Go.Proofs.YtiknaldhjbdnbaaGreatDoor.PFnExactTurnPlay
