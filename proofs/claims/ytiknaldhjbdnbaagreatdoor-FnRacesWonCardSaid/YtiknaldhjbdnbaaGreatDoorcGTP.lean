/- impl.TurnPlay, walked: NewReplacer and Replace by their contracts. -/
import Derived.Test.YtiknaldhjbdnbaaGreatDoorcGNR
import Derived.Test.YtiknaldhjbdnbaaGreatDoorcGPoints
namespace Go.Proofs.YtiknaldhjbdnbaaGreatDoor
open Go.RowKit Go.Proofs.YtiknaldhjbdnbaaGreatDoor.PFnExactTurnPlay Go.Proofs.YtiknaldhjbdnbaaGreatDoorW.PrintWords Go.Proofs.YtiknaldhjbdnbaaGreatDoorW.PrintLast Go.Proofs.YtiknaldhjbdnbaaGreatDoorW.PrintMore
set_option linter.unusedVariables false
set_option linter.unusedSimpArgs false
def impl_TurnPlay.f (a0 : ByteArray) : Option (ByteArray × Bool) := (impl_isPoints.f a0 100).bind fun t => if t = true then some (trS a0, true) else some (⟨#[]⟩, false)
theorem points_small {a0 : ByteArray} (h : impl_isPoints.f a0 100 = some true) : (a0.size : Int) < 9223372036854775807 := by
  unfold impl_isPoints.f at h
  by_cases c : (a0.size : Int) ≤ 100
  · omega
  · rw [if_neg c] at h
    cases h
set_option maxHeartbeats 4000000 in
set_option maxRecDepth 100000 in
theorem impl_TurnPlay.calls (a0 : ByteArray) (r1 : ByteArray) (r2 : Bool) (w : World) (h : impl_TurnPlay.f a0 = some (r1, r2)) :
    Calls Tryz.prog 32 #[.string a0] w fun e w' => e = .returned (.tuple #[.string r1, .bool r2]) ∧ Below w.heap.size w w' := by
  unfold impl_TurnPlay.f at h
  replace h := Option.bind_eq_some_iff.mp h
  obtain ⟨t, ht, h⟩ := h
  cases t
  · rw [if_neg (by decide)] at h
    obtain ⟨rfl, rfl⟩ := Prod.mk.inj (Option.some.inj h)
    have HT := Aside0.mk ht
    clear ht h
    go_enter Tryz.func32, Tryz.ntmps32
    go_wp2_with (go_at_call 42; refine (impl_isPoints.calls a0 100 false w HT.out).mono ?_; rintro e w1 ⟨rfl, hb⟩; have HB := Aside0.mk hb; clear hb)
    go_ret2
    exact ⟨rfl, HB.out⟩
  · rw [if_pos rfl] at h
    obtain ⟨rfl, rfl⟩ := Prod.mk.inj (Option.some.inj h)
    have HN := Aside0.mk (points_small ht)
    have HT := Aside0.mk ht
    clear ht h
    go_enter Tryz.func32, Tryz.ntmps32
    go_wp2_with (go_at_call 42; refine (impl_isPoints.calls a0 100 true w HT.out).mono ?_; rintro e w1 ⟨rfl, hb⟩; have HB := Aside0.mk hb; clear hb)
    refine (newReplacer.calls _ w1.heap.size 4 (by simp) (blk_cell (blk_new w1 _) 0) (blk_cell (blk_new w1 _) 1) (blk_cell (blk_new w1 _) 2) (blk_cell (blk_new w1 _) 3)).mono ?_
    rintro e w2 ⟨g, o2, c2, rfl, hR, hne, q0, q1, q2, q3, hge, hb2⟩
    have hz : ∀ o : Obj, (w1.alloc o).heap.size = w1.heap.size + 1 := fun o => by simp
    rw [hz] at hge
    have hB2 := below_then (below_alloc HB.out _) (by rw [hz]; have := HB.out.size; omega) hb2
    have hgw : w.heap.size ≤ g := by have := HB.out.size; omega
    have HB2 := Aside0.mk hB2
    clear hB2 hb2 hge hz
    go_wp2_with fail
    refine (replace.calls w w2 g o2 c2 a0 HN.out HB2.out hgw hR hne q0 q1 q2 q3).mono ?_
    rintro e w3 ⟨rfl, hB3⟩
    go_wp2
    go_ret2
    exact ⟨rfl, hB3⟩
end Go.Proofs.YtiknaldhjbdnbaaGreatDoor
