/- impl.board's closure, walked: by which of two darts stands ahead. No condition. -/
import Derived.Test.YtacmfgbeaoalfaacGSco
import Derived.StillTailTactics
import Derived.BigQuiet
namespace Go.Proofs.Ytacmfgbeaoalfaa.QFnDartsFinish
open Go.RowKit Go.Proofs.YtacmfgbeaoalfaaW.PrintWords Go.Proofs.YtacmfgbeaoalfaaW.PrintLast Go.Proofs.YtacmfgbeaoalfaaW.PrintMore
set_option linter.unusedVariables false
set_option linter.unusedSimpArgs false
def scW (d : S43) : Int := wrap64 (d.f0 * d.f1)
def cmpD (x y : S43) : Int := if scW x = scW y then wrap64 (y.f1 - x.f1) else wrap64 (scW y - scW x)
theorem score_f (d : S43) : impl_Dart_score.f d.f0 d.f1 = some (scW d) := rfl
set_option maxHeartbeats 8000000 in
set_option maxRecDepth 100000 in
theorem cmpD.calls (x y : S43) (w : World) : Calls Try.prog 54 #[.agg #[.int .i64 x.f0, .int .i64 x.f1], .agg #[.int .i64 y.f0, .int .i64 y.f1]] w fun e w' => e = .returned (.int .i64 (cmpD x y)) ∧ Below w.heap.size w w' := by
  have hu43 := Try.underlying43
  have HX := Aside0.mk (score_f x)
  have HY := Aside0.mk (score_f y)
  obtain ⟨sx, hsx⟩ : ∃ s, s = scW x := ⟨_, rfl⟩
  obtain ⟨sy, hsy⟩ : ∃ s, s = scW y := ⟨_, rfl⟩
  have hc : cmpD x y = if sx = sy then wrap64 (y.f1 - x.f1) else wrap64 (sy - sx) := by rw [hsx, hsy]; rfl
  rw [hc]
  rw [← hsx] at HX
  rw [← hsy] at HY
  clear hc hsx hsy
  obtain ⟨x0, hx0⟩ : ∃ z, z = x.f0 := ⟨_, rfl⟩
  obtain ⟨x1, hx1⟩ : ∃ z, z = x.f1 := ⟨_, rfl⟩
  obtain ⟨y0, hy0⟩ : ∃ z, z = y.f0 := ⟨_, rfl⟩
  obtain ⟨y1, hy1⟩ : ∃ z, z = y.f1 := ⟨_, rfl⟩
  rw [← hx0, ← hx1] at HX ⊢
  rw [← hy0, ← hy1] at HY ⊢
  clear hx0 hx1 hy0 hy1
  obtain ⟨res, hres⟩ : ∃ r : Int, r = (if sx = sy then wrap64 (y1 - x1) else wrap64 (sy - sx)) := ⟨_, rfl⟩
  rw [← hres]
  have HRES := Aside0.mk hres
  clear hres
  have HB0 := Aside0.mk (show Below w.heap.size w ((w.alloc (.cells #[.int .i64 x0, .int .i64 x1] 43)).alloc (.cells #[.int .i64 y0, .int .i64 y1] 43)) from below_alloc (below_alloc (Below.refl _ _) _) _)
  have BX := Aside0.mk (blk_alloc (blk_new w (.cells #[.int .i64 x0, .int .i64 x1] 43)) (.cells #[.int .i64 y0, .int .i64 y1] 43))
  have BY0 : ((w.alloc (.cells #[.int .i64 x0, .int .i64 x1] 43)).alloc (.cells #[.int .i64 y0, .int .i64 y1] 43)).heap[w.heap.size + 1]? = some (.cells #[.int .i64 y0, .int .i64 y1] 43 (0, 0)) := by
    have := blk_new (w.alloc (.cells #[.int .i64 x0, .int .i64 x1] 43)) (.cells #[.int .i64 y0, .int .i64 y1] 43)
    simpa using this
  have BY := Aside0.mk BY0
  clear BY0
  go_enter Try.func54, Try.ntmps54
  go_upto_region 1 with fail
  generalize ((w.alloc (.cells #[.int .i64 x0, .int .i64 x1] 43)).alloc (.cells #[.int .i64 y0, .int .i64 y1] 43)) = u at HB0 BX BY ⊢
  obtain ⟨bx, hbx⟩ : ∃ b, b = w.heap.size := ⟨_, rfl⟩
  rw [← hbx] at BX BY ⊢
  have HBX := Aside0.mk hbx
  clear hbx
  have q0 : u.cell? ⟨bx, 0, none⟩ = some (.int .i64 x0) := (blk_cell BX.out 0).trans rfl
  have q1 : u.cell? ⟨bx, 1, none⟩ = some (.int .i64 x1) := (blk_cell BX.out 1).trans rfl
  have q2 : u.cell? ⟨bx + 1, 0, none⟩ = some (.int .i64 y0) := (blk_cell BY.out 0).trans rfl
  have q3 : u.cell? ⟨bx + 1, 1, none⟩ = some (.int .i64 y1) := (blk_cell BY.out 1).trans rfl
  by_cases c : sx = sy
  · have HC := Aside0.mk c
    have c1 : (sx == sy) = true := beq_iff_eq.2 c
    have c2 : (sx != sy) = false := by rw [bne, c1]; rfl
    clear c
    go_region_held3 (fun w' => w'.cell? ⟨bx, 0, none⟩ = some (.int .i64 x0) ∧ w'.cell? ⟨bx, 1, none⟩ = some (.int .i64 x1) ∧ w'.cell? ⟨bx + 1, 0, none⟩ = some (.int .i64 y0) ∧ w'.cell? ⟨bx + 1, 1, none⟩ = some (.int .i64 y1)) (exact ⟨q0, q1, q2, q3⟩) (first
    | (go_at_call 36; (with_reducible refine (impl_Dart_score.calls y0 y1 sy _ HY.out).mono ?_); rintro e w2 ⟨rfl, hb⟩; have HB9 := Aside0.mk (below_step (by first | exact HB0.out | exact below_drew1 HB0.out) hb); have BX9 := Aside0.mk (blk_below (by first | exact BX.out | exact blk_drew BX.out) hb); have BY9 := Aside0.mk (blk_below (by first | exact BY.out | exact blk_drew BY.out) hb); clear HB0 BX BY hb q0 q1 q2 q3; have HB0 := HB9; have BX := BX9; have BY := BY9; clear HB9 BX9 BY9; have q0 : w2.cell? ⟨bx, 0, none⟩ = some (.int .i64 x0) := (blk_cell BX.out 0).trans rfl; have q1 : w2.cell? ⟨bx, 1, none⟩ = some (.int .i64 x1) := (blk_cell BX.out 1).trans rfl; have q2 : w2.cell? ⟨bx + 1, 0, none⟩ = some (.int .i64 y0) := (blk_cell BY.out 0).trans rfl; have q3 : w2.cell? ⟨bx + 1, 1, none⟩ = some (.int .i64 y1) := (blk_cell BY.out 1).trans rfl)
    | (go_at_call 36; (with_reducible refine (impl_Dart_score.calls x0 x1 sx _ HX.out).mono ?_); rintro e w2 ⟨rfl, hb⟩; have HB9 := Aside0.mk (below_step (by first | exact HB0.out | exact below_drew1 HB0.out) hb); have BX9 := Aside0.mk (blk_below (by first | exact BX.out | exact blk_drew BX.out) hb); have BY9 := Aside0.mk (blk_below (by first | exact BY.out | exact blk_drew BY.out) hb); clear HB0 BX BY hb q0 q1 q2 q3; have HB0 := HB9; have BX := BX9; have BY := BY9; clear HB9 BX9 BY9; have q0 : w2.cell? ⟨bx, 0, none⟩ = some (.int .i64 x0) := (blk_cell BX.out 0).trans rfl; have q1 : w2.cell? ⟨bx, 1, none⟩ = some (.int .i64 x1) := (blk_cell BX.out 1).trans rfl; have q2 : w2.cell? ⟨bx + 1, 0, none⟩ = some (.int .i64 y0) := (blk_cell BY.out 0).trans rfl; have q3 : w2.cell? ⟨bx + 1, 1, none⟩ = some (.int .i64 y1) := (blk_cell BY.out 1).trans rfl))
    go_wp2
    go_ret
    exact ⟨by rw [HRES.out]; first | (rw [if_pos HC.out, ← i64_w]; rfl) | (rw [if_neg HC.out, ← i64_w]; rfl) | (rw [if_pos HC.out]; rfl) | (rw [if_neg HC.out]; rfl), by first | exact HB0.out | exact pw_below_drewN HB0.out _ | exact below_drew1 HB0.out⟩
  · have HC := Aside0.mk c
    have c1 : (sx == sy) = false := beq_eq_false_iff_ne.2 c
    have c2 : (sx != sy) = true := bne_iff_ne.2 c
    clear c
    go_region_held3 (fun w' => w'.cell? ⟨bx, 0, none⟩ = some (.int .i64 x0) ∧ w'.cell? ⟨bx, 1, none⟩ = some (.int .i64 x1) ∧ w'.cell? ⟨bx + 1, 0, none⟩ = some (.int .i64 y0) ∧ w'.cell? ⟨bx + 1, 1, none⟩ = some (.int .i64 y1)) (exact ⟨q0, q1, q2, q3⟩) (first
    | (go_at_call 36; (with_reducible refine (impl_Dart_score.calls y0 y1 sy _ HY.out).mono ?_); rintro e w2 ⟨rfl, hb⟩; have HB9 := Aside0.mk (below_step (by first | exact HB0.out | exact below_drew1 HB0.out) hb); have BX9 := Aside0.mk (blk_below (by first | exact BX.out | exact blk_drew BX.out) hb); have BY9 := Aside0.mk (blk_below (by first | exact BY.out | exact blk_drew BY.out) hb); clear HB0 BX BY hb q0 q1 q2 q3; have HB0 := HB9; have BX := BX9; have BY := BY9; clear HB9 BX9 BY9; have q0 : w2.cell? ⟨bx, 0, none⟩ = some (.int .i64 x0) := (blk_cell BX.out 0).trans rfl; have q1 : w2.cell? ⟨bx, 1, none⟩ = some (.int .i64 x1) := (blk_cell BX.out 1).trans rfl; have q2 : w2.cell? ⟨bx + 1, 0, none⟩ = some (.int .i64 y0) := (blk_cell BY.out 0).trans rfl; have q3 : w2.cell? ⟨bx + 1, 1, none⟩ = some (.int .i64 y1) := (blk_cell BY.out 1).trans rfl)
    | (go_at_call 36; (with_reducible refine (impl_Dart_score.calls x0 x1 sx _ HX.out).mono ?_); rintro e w2 ⟨rfl, hb⟩; have HB9 := Aside0.mk (below_step (by first | exact HB0.out | exact below_drew1 HB0.out) hb); have BX9 := Aside0.mk (blk_below (by first | exact BX.out | exact blk_drew BX.out) hb); have BY9 := Aside0.mk (blk_below (by first | exact BY.out | exact blk_drew BY.out) hb); clear HB0 BX BY hb q0 q1 q2 q3; have HB0 := HB9; have BX := BX9; have BY := BY9; clear HB9 BX9 BY9; have q0 : w2.cell? ⟨bx, 0, none⟩ = some (.int .i64 x0) := (blk_cell BX.out 0).trans rfl; have q1 : w2.cell? ⟨bx, 1, none⟩ = some (.int .i64 x1) := (blk_cell BX.out 1).trans rfl; have q2 : w2.cell? ⟨bx + 1, 0, none⟩ = some (.int .i64 y0) := (blk_cell BY.out 0).trans rfl; have q3 : w2.cell? ⟨bx + 1, 1, none⟩ = some (.int .i64 y1) := (blk_cell BY.out 1).trans rfl))
    go_upto_region 2 with fail
    go_region_held3 (fun w' => w'.cell? ⟨bx, 0, none⟩ = some (.int .i64 x0) ∧ w'.cell? ⟨bx, 1, none⟩ = some (.int .i64 x1) ∧ w'.cell? ⟨bx + 1, 0, none⟩ = some (.int .i64 y0) ∧ w'.cell? ⟨bx + 1, 1, none⟩ = some (.int .i64 y1)) (exact ⟨q0, q1, q2, q3⟩) (first
    | (go_at_call 36; (with_reducible refine (impl_Dart_score.calls y0 y1 sy _ HY.out).mono ?_); rintro e w2 ⟨rfl, hb⟩; have HB9 := Aside0.mk (below_step (by first | exact HB0.out | exact below_drew1 HB0.out) hb); have BX9 := Aside0.mk (blk_below (by first | exact BX.out | exact blk_drew BX.out) hb); have BY9 := Aside0.mk (blk_below (by first | exact BY.out | exact blk_drew BY.out) hb); clear HB0 BX BY hb q0 q1 q2 q3; have HB0 := HB9; have BX := BX9; have BY := BY9; clear HB9 BX9 BY9; have q0 : w2.cell? ⟨bx, 0, none⟩ = some (.int .i64 x0) := (blk_cell BX.out 0).trans rfl; have q1 : w2.cell? ⟨bx, 1, none⟩ = some (.int .i64 x1) := (blk_cell BX.out 1).trans rfl; have q2 : w2.cell? ⟨bx + 1, 0, none⟩ = some (.int .i64 y0) := (blk_cell BY.out 0).trans rfl; have q3 : w2.cell? ⟨bx + 1, 1, none⟩ = some (.int .i64 y1) := (blk_cell BY.out 1).trans rfl)
    | (go_at_call 36; (with_reducible refine (impl_Dart_score.calls x0 x1 sx _ HX.out).mono ?_); rintro e w2 ⟨rfl, hb⟩; have HB9 := Aside0.mk (below_step (by first | exact HB0.out | exact below_drew1 HB0.out) hb); have BX9 := Aside0.mk (blk_below (by first | exact BX.out | exact blk_drew BX.out) hb); have BY9 := Aside0.mk (blk_below (by first | exact BY.out | exact blk_drew BY.out) hb); clear HB0 BX BY hb q0 q1 q2 q3; have HB0 := HB9; have BX := BX9; have BY := BY9; clear HB9 BX9 BY9; have q0 : w2.cell? ⟨bx, 0, none⟩ = some (.int .i64 x0) := (blk_cell BX.out 0).trans rfl; have q1 : w2.cell? ⟨bx, 1, none⟩ = some (.int .i64 x1) := (blk_cell BX.out 1).trans rfl; have q2 : w2.cell? ⟨bx + 1, 0, none⟩ = some (.int .i64 y0) := (blk_cell BY.out 0).trans rfl; have q3 : w2.cell? ⟨bx + 1, 1, none⟩ = some (.int .i64 y1) := (blk_cell BY.out 1).trans rfl))
    go_wp2
    go_ret
    exact ⟨by rw [HRES.out]; first | (rw [if_pos HC.out, ← i64_w]; rfl) | (rw [if_neg HC.out, ← i64_w]; rfl) | (rw [if_pos HC.out]; rfl) | (rw [if_neg HC.out]; rfl), by first | exact HB0.out | exact pw_below_drewN HB0.out _ | exact below_drew1 HB0.out⟩
end Go.Proofs.Ytacmfgbeaoalfaa.QFnDartsFinish
