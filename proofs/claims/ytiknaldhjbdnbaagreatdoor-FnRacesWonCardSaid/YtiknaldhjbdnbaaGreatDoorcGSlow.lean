/- strings.Replacer's buildOnce, and sync.Once's Do over it. -/
import Derived.Test.YtiknaldhjbdnbaaGreatDoorcGBuild
namespace Go.Proofs.YtiknaldhjbdnbaaGreatDoor.PFnExactTurnPlay
open Go.RowKit Go.Proofs.YtiknaldhjbdnbaaGreatDoorW.PrintWords Go.Proofs.YtiknaldhjbdnbaaGreatDoorW.PrintLast Go.Proofs.YtiknaldhjbdnbaaGreatDoorW.PrintMore
set_option linter.unusedVariables false
set_option linter.unusedSimpArgs false
def IsRep (w : World) (b : Nat) (d m : Int) (v os : Value) : Prop := w.heap[b]? = some (.cells #[.int .u32 d, .int .i32 m, .int .u32 0, v, os] 101 (0, 0))
set_option maxHeartbeats 4000000 in
set_option maxRecDepth 100000 in
theorem buildOnce.calls (w0 w : World) (b oo c : Nat) (d m : Int) (hB : Below w0.heap.size w0 w) (hge : w0.heap.size ≤ b) (hr : IsRep w b d m .nilIface (.slice (some ⟨oo, 0, none⟩) 4 c)) (h0 : w.cell? ⟨oo, 0, none⟩ = some (.string ⟨#[97]⟩)) (h1 : w.cell? ⟨oo, 1, none⟩ = some (.string ⟨#[98]⟩)) (h2 : w.cell? ⟨oo, 2, none⟩ = some (.string ⟨#[98]⟩)) (h3 : w.cell? ⟨oo, 3, none⟩ = some (.string ⟨#[97]⟩)) :
    Calls Tryz.prog 66 #[.pointer (some ⟨b, 0, none⟩)] w fun e w' => e = .returned (.tuple #[]) ∧ IsRep w' b d m (.iface 128 (.pointer (some ⟨w.heap.size, 0, none⟩))) (.slice none 0 0) ∧ IsTab w' w.heap.size ∧ Below w0.heap.size w0 w' := by
  have hs : w.cell? ⟨b, 4, none⟩ = some (.slice (some ⟨oo, 0, none⟩) 4 c) := blk_cell hr 4
  have hlt := blk_lt hr
  go_enter Tryz.func66, Tryz.ntmps66
  go_wp2_with fail
  refine (build.calls w b oo c hs h0 h1 h2 h3).mono ?_
  rintro e w1 ⟨rfl, HT, HB⟩
  have hB1 := below_then hB hB.size HB
  have hr1 : IsRep w1 b d m .nilIface (.slice (some ⟨oo, 0, none⟩) 4 c) := blk_below hr HB
  have c3 : w1.cell? ⟨b, 3, none⟩ = some .nilIface := blk_cell hr1 3
  have c4 : w1.cell? ⟨b, 4, none⟩ = some (.slice (some ⟨oo, 0, none⟩) 4 c) := blk_cell hr1 4
  have f3 := blk_frozen hr1 3
  have f4 := blk_frozen hr1 4
  have hne : b ≠ w.heap.size := by omega
  have hE : IsRep ((w1.setCell ⟨b, 3, none⟩ (.iface 128 (.pointer (some ⟨w.heap.size, 0, none⟩)))).setCell ⟨b, 4, none⟩ (.slice none 0 0)) b d m (.iface 128 (.pointer (some ⟨w.heap.size, 0, none⟩))) (.slice none 0 0) :=
    blk_put (blk_set hr1 3 _) 4 _ rfl
  have hTE : IsTab ((w1.setCell ⟨b, 3, none⟩ (.iface 128 (.pointer (some ⟨w.heap.size, 0, none⟩)))).setCell ⟨b, 4, none⟩ (.slice none 0 0)) w.heap.size := by
    obtain ⟨cs, hg, hs2, hv⟩ := HT
    exact ⟨cs, blk_far (blk_far hg hne.symm _) hne.symm _, hs2, hv⟩
  have hKE : Below w0.heap.size w0 ((w1.setCell ⟨b, 3, none⟩ (.iface 128 (.pointer (some ⟨w.heap.size, 0, none⟩)))).setCell ⟨b, 4, none⟩ (.slice none 0 0)) := (hB1.setCell (p := ⟨b, 3, none⟩) hge _).setCell (p := ⟨b, 4, none⟩) hge _
  have H1 := Aside0.mk hE
  have H2 := Aside0.mk hTE
  have H3 := Aside0.mk hKE
  clear hE hTE hKE hB1 HT HB
  go_wp2_with fail
  go_end0
  exact ⟨rfl, H1.out, H2.out, H3.out⟩
set_option maxRecDepth 100000 in
set_option maxHeartbeats 4000000 in
theorem slow.calls (w0 w : World) (b oo c : Nat) (hB : Below w0.heap.size w0 w) (hge : w0.heap.size ≤ b) (hr : IsRep w b 0 0 .nilIface (.slice (some ⟨oo, 0, none⟩) 4 c)) (hoo : oo ≠ b) (h0 : w.cell? ⟨oo, 0, none⟩ = some (.string ⟨#[97]⟩)) (h1 : w.cell? ⟨oo, 1, none⟩ = some (.string ⟨#[98]⟩)) (h2 : w.cell? ⟨oo, 2, none⟩ = some (.string ⟨#[98]⟩)) (h3 : w.cell? ⟨oo, 3, none⟩ = some (.string ⟨#[97]⟩)) :
    Calls Tryz.prog 75 #[.pointer (some ⟨b, 0, none⟩), .func (.func 66) #[.pointer (some ⟨b, 0, none⟩)] #[]] w fun e w' => e = .returned (.tuple #[]) ∧ ∃ g, IsRep w' b 1 0 (.iface 128 (.pointer (some ⟨g, 0, none⟩))) (.slice none 0 0) ∧ IsTab w' g ∧ Below w0.heap.size w0 w' := by
  have c1 : w.cell? ⟨b, 1, none⟩ = some (.int .i32 0) := blk_cell hr 1
  have f1 := blk_frozen hr 1
  have hr1 : IsRep (w.setCell ⟨b, 1, none⟩ (.int .i32 1)) b 0 1 .nilIface (.slice (some ⟨oo, 0, none⟩) 4 c) := blk_put hr 1 _ rfl
  have hB1 : Below w0.heap.size w0 (w.setCell ⟨b, 1, none⟩ (.int .i32 1)) := hB.setCell (p := ⟨b, 1, none⟩) hge _
  have fr : ∀ k : Nat, ∀ v, w.cell? ⟨oo, k, none⟩ = some v → (w.setCell ⟨b, 1, none⟩ (.int .i32 1)).cell? ⟨oo, k, none⟩ = some v := fun k v h => (World.cell?_setCell_other _ ⟨b, 1, none⟩ ⟨oo, k, none⟩ _ (fun h => hoo (congrArg Addr.block h).symm)).trans h
  have h0' := fr 0 _ h0
  have h1' := fr 1 _ h1
  have h2' := fr 2 _ h2
  have h3' := fr 3 _ h3
  have c0 : (w.setCell ⟨b, 1, none⟩ (.int .i32 1)).cell? ⟨b, 0, none⟩ = some (.int .u32 0) := blk_cell hr1 0
  have hl := run_call_load (P := Tryz.prog) Tryz.func81 (by kernel_rfl) (by kernel_rfl) (by kernel_rfl) .u32 (by kernel_rfl) (w := w.setCell ⟨b, 1, none⟩ (.int .i32 1)) (a := ⟨b, 0, none⟩) (x := 0) c0
  have hnot : ∀ (x : Bool) (w : World), (Op.unary .not (.bool x)).run Tryz.prog w = .ok (.bool (!x)) w := fun _ _ => rfl
  clear fr
  go_enter_defers Tryz.func75, Tryz.ntmps75
  go_wp2_with (go_at_call 82; refine (lock_free ⟨b, 1, none⟩ _ (by assumption) (by assumption)).mono ?_; rintro e w' ⟨rfl, rfl⟩)
  go_in
  go_wp2_with fail
  refine (buildOnce.calls w0 _ b oo c 0 1 hB1 hge hr1 h0' h1' h2' h3').mono ?_
  rintro e w1 ⟨rfl, hR, hT, hBB⟩
  have d0 : w1.cell? ⟨b, 0, none⟩ = some (.int .u32 0) := blk_cell hR 0
  have g0 := blk_frozen hR 0
  have hR2 := blk_set (blk_drew hR) 0 (.int .u32 1)
  have d1 : (w1.drew.setCell ⟨b, 0, none⟩ (.int .u32 1)).cell? ⟨b, 1, none⟩ = some (.int .i32 1) := blk_cell hR2 1
  have g1 := blk_frozen hR2 1
  have hR3 := blk_set hR2 1 (.int .i32 0)
  have hgne : (w.setCell ⟨b, 1, none⟩ (.int .i32 1)).heap.size ≠ b := by have := blk_lt hr1; omega
  obtain ⟨ct, hct, hcs, hcv⟩ := hT
  have hT3 : IsTab ((w1.drew.setCell ⟨b, 0, none⟩ (.int .u32 1)).setCell ⟨b, 1, none⟩ (.int .i32 0)) (w.setCell ⟨b, 1, none⟩ (.int .i32 1)).heap.size := ⟨ct, blk_far (blk_far (blk_drew hct) hgne _) hgne _, hcs, hcv⟩
  have hB3 : Below w0.heap.size w0 ((w1.drew.setCell ⟨b, 0, none⟩ (.int .u32 1)).setCell ⟨b, 1, none⟩ (.int .i32 0)) := ((below_drew1 hBB).setCell (p := ⟨b, 0, none⟩) hge _).setCell (p := ⟨b, 1, none⟩) hge _
  have H1 := Aside0.mk hR3
  have H2 := Aside0.mk hT3
  have H3 := Aside0.mk hB3
  clear hR3 hT3 hB3 hct hBB hR2
  go_wp2_with fail
  refine leaves_cons (f := 84) (args := #[.pointer (some ⟨b, 0, none⟩), .bool true]) (by simp) (by simp [go_sem]) ?_
  refine (store_deferred ⟨b, 0, none⟩ (.int .u32 0) .returning _ d0 g0).mono ?_
  rintro e u' w'' ⟨rfl, rfl, rfl⟩
  refine leaves_cons (f := 83) (args := #[.pointer (some ⟨b, 1, none⟩)]) (by simp [settle]) (by simp [go_sem]) ?_
  refine (unlock_deferred ⟨b, 1, none⟩ _ _ d1 g1).mono ?_
  rintro e u' w'' ⟨rfl, rfl, rfl⟩
  simp [Leaves, settle, results, Tryz.results75]
  exact ⟨_, H1.out, H2.out, H3.out⟩
set_option maxRecDepth 100000 in
set_option maxHeartbeats 4000000 in
theorem do.calls (w0 w : World) (b oo c : Nat) (hB : Below w0.heap.size w0 w) (hge : w0.heap.size ≤ b) (hr : IsRep w b 0 0 .nilIface (.slice (some ⟨oo, 0, none⟩) 4 c)) (hoo : oo ≠ b) (h0 : w.cell? ⟨oo, 0, none⟩ = some (.string ⟨#[97]⟩)) (h1 : w.cell? ⟨oo, 1, none⟩ = some (.string ⟨#[98]⟩)) (h2 : w.cell? ⟨oo, 2, none⟩ = some (.string ⟨#[98]⟩)) (h3 : w.cell? ⟨oo, 3, none⟩ = some (.string ⟨#[97]⟩)) :
    Calls Tryz.prog 65 #[.pointer (some ⟨b, 0, none⟩), .func (.func 66) #[.pointer (some ⟨b, 0, none⟩)] #[]] w fun e w' => e = .returned (.tuple #[]) ∧ ∃ g, IsRep w' b 1 0 (.iface 128 (.pointer (some ⟨g, 0, none⟩))) (.slice none 0 0) ∧ IsTab w' g ∧ Below w0.heap.size w0 w' := by
  have c0 : w.cell? ⟨b, 0, none⟩ = some (.int .u32 0) := blk_cell hr 0
  have hl := run_call_load (P := Tryz.prog) Tryz.func81 (by kernel_rfl) (by kernel_rfl) (by kernel_rfl) .u32 (by kernel_rfl) (w := w) (a := ⟨b, 0, none⟩) (x := 0) c0
  have hnot : ∀ (x : Bool) (w : World), (Op.unary .not (.bool x)).run Tryz.prog w = .ok (.bool (!x)) w := fun _ _ => rfl
  go_enter Tryz.func65, Tryz.ntmps65
  go_wp2_with (first | (go_at_call 75; refine (slow.calls w0 _ b oo c hB hge hr hoo h0 h1 h2 h3).mono ?_; rintro e w' ⟨rfl, g, hR, hT, hB'⟩) | (go_at_call 74; go_in))
  go_end0
  exact ⟨rfl, g, hR, hT, hB'⟩
end Go.Proofs.YtiknaldhjbdnbaaGreatDoor.PFnExactTurnPlay
