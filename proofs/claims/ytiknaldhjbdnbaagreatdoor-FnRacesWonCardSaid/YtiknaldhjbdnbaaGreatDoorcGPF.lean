/- laws.FnRacesWon returns true at all bytes: what is asked of the answers holds. Conditions: bytes, and not too many. -/
import Derived.Test.YtiknaldhjbdnbaaGreatDoorcLT
import Derived.Test.YtiknaldhjbdnbaaGreatDoorcGPE
import Derived.Test.YtiknaldhjbdnbaaGreatDoorcGPG
import Derived.OpenShut
namespace Go.Proofs.YtiknaldhjbdnbaaGreatDoor.Pure
open Go.RowKit Go.Proofs.YtiknaldhjbdnbaaGreatDoor.QFnRacesWon Go.Proofs.YtiknaldhjbdnbaaGreatDoorW.PrintWords Go.Proofs.YtiknaldhjbdnbaaGreatDoorW.PrintLast Go.Proofs.YtiknaldhjbdnbaaGreatDoorW.PrintMore
open Go.Proofs.YtiknaldhjbdnbaaGreatDoor.PFnExactTurnPlay (trS trB)
set_option linter.unusedVariables false
set_option linter.unusedSimpArgs false
set_option linter.unusedSectionVars false
theorem a1_of (l0 : List Int) (To Lead : Int) (s : ByteArray) (hd : ∃ k, spec_DrawWinnerOf.f k l0 = some (To, Lead, s)) (hs2 : s.size ≤ 1048576) :
    ∃ (W nx : ByteArray) (ok is seven five g : Bool) (a b bk : Int), A1 l0 To Lead s W nx ok is seven five g a b bk := by
  have hr : spec_IsRace.f To Lead = some (goodR To Lead) := by
    unfold spec_IsRace.f
    rw [raGood_eq]
    rfl
  have hw := winner_eq To Lead s
  have hw' := ev_ex (winner_ev To Lead s hs2)
  have hp := points_eq To Lead s
  have hp' := ev_ex (points_ev To Lead s hs2)
  have hl := isPlay_eq To Lead s
  have hl' := ev_ex (isPlay_ev To Lead s hs2)
  cases hi : isB To Lead s
  · have e1 : winV To Lead s = (⟨#[]⟩, false) := by unfold winV; rw [if_neg (by rw [hi]; decide)]
    have e2 : ptsV To Lead s = (0, 0, false) := by unfold ptsV; rw [if_neg (by rw [hi]; decide)]
    rw [e1] at hw hw'
    rw [e2] at hp hp'
    rw [hi] at hl hl'
    refine ⟨_, ⟨#[]⟩, false, false, _, false, _, 0, 0, 0, hd, hw, hw', hp, hp', ev_ex (next_no hs2 hi).2, ev_ex (next_no hs2 hi).1, ev_ex (back_no hs2 hi).2, ev_ex (back_no hs2 hi).1, hl, hl', isRace_eq To Lead, hr, fun h => absurd h (by decide), .inr ⟨rfl, rfl, rfl, fun h => ?_⟩⟩
    rw [Bool.and_eq_true] at h
    exact h.1
  · have hb := bf_of hi
    have e1 : winV To Lead s = ((winV To Lead s).1, true) := by rw [winV_is hi]
    have e2 : ptsV To Lead s = ((cntS To Lead s).1, (cntS To Lead s).2.1, true) := by unfold ptsV; rw [if_pos hi]
    rw [e1] at hw hw'
    rw [e2] at hp hp'
    obtain ⟨h1, h2, h3⟩ := isB_parts hi
    rw [hi, h1, h2] at hl hl'
    exact ⟨_, _, true, true, true, _, _, _, _, _, hd, hw, hw', hp, hp', ev_ex (next_yes hs2 hi).2, ev_ex (next_yes hs2 hi).1, ev_ex (back_yes hs2 hi).2, ev_ex (back_yes hs2 hi).1, hl, hl', isRace_eq To Lead, hr, fun _ => hb, .inl ⟨rfl, rfl, rfl, h1⟩⟩
theorem few_nn {To Lead : Int} {s side : ByteArray} {v : Int × Bool} (hA : isB To Lead s = false → v = (0, false)) (h97 : isB To Lead s = true → side.toList = [97] → v = fewV To Lead (cntS To Lead s).1 (cntS To Lead s).2.1) (h98 : isB To Lead s = true → side.toList = [98] → v = fewV To Lead (cntS To Lead s).2.1 (cntS To Lead s).1) (hN : side.toList ≠ [97] → side.toList ≠ [98] → v = (0, false)) : 0 ≤ v.1 := by
  have hf : ∀ x y : Int, 0 ≤ (fewV To Lead x y).1 := by
    intro x y
    unfold fewV
    split
    · exact Int.le_refl 0
    · exact (le_mx 0 _).1
  cases hi : isB To Lead s
  · rw [hA hi]
    exact Int.le_refl 0
  · by_cases e1 : side.toList = [97]
    · rw [h97 hi e1]
      exact hf _ _
    · by_cases e2 : side.toList = [98]
      · rw [h98 hi e2]
        exact hf _ _
      · rw [hN e1 e2]
        exact Int.le_refl 0
theorem side_eq {side : ByteArray} {c : UInt8} (h : side.toList = [c]) : side = ⟨#[c]⟩ := by
  rw [Lib.toList_data] at h
  apply ByteArray.ext
  apply Array.toList_inj.1
  exact h
theorem few_law {To Lead : Int} {s side : ByteArray} {v : Int × Bool} (hA : isB To Lead s = false → v = (0, false)) (h97 : isB To Lead s = true → side.toList = [97] → v = fewV To Lead (cntS To Lead s).1 (cntS To Lead s).2.1) (h98 : isB To Lead s = true → side.toList = [98] → v = fewV To Lead (cntS To Lead s).2.1 (cntS To Lead s).1) (hN : side.toList ≠ [97] → side.toList ≠ [98] → v = (0, false)) (few : Nat) (hv : v.1 = (few : Int)) (h2 : v.2 = true) (hle : (few : Int) ≤ 100 - (s.size : Int)) : impl_WinnerOf.f To Lead (repS s side few) = some (side, true) := by
  rw [winner_eq]
  cases hi : isB To Lead s
  · rw [hA hi] at h2
    exact absurd h2 (by decide)
  · have hz := (sums hi).2.2.2.2.2
    by_cases e1 : side.toList = [97]
    · have e := h97 hi e1
      rw [side_eq e1]
      rw [few_win97 hi few (by rw [← e, ← hv, ← h2]) (by omega)]
    · by_cases e2 : side.toList = [98]
      · have e := h98 hi e2
        rw [side_eq e2]
        rw [few_win98 hi few (by rw [← e, ← hv, ← h2]) (by omega)]
      · rw [hN e1 e2] at h2
        exact absurd h2 (by decide)
theorem run_law {s : ByteArray} (hp : pointsB s = true) (he : (s.toList == ([] : List UInt8)) = false) : 1 ≤ (lrun none s.data.toList ⟨#[]⟩ 0 0).2 ∧ (lrun none s.data.toList ⟨#[]⟩ 0 0).2 ≤ (s.size : Int) ∧ trS (lrun none s.data.toList ⟨#[]⟩ 0 0).1 ≠ (lrun none s.data.toList ⟨#[]⟩ 0 0).1 ∧ (∃ k, impl_LongestRun.f k (trS s) = some (trS (lrun none s.data.toList ⟨#[]⟩ 0 0).1, (lrun none s.data.toList ⟨#[]⟩ 0 0).2, true)) := by
  have hz := pointsB_size hp
  have hall := pointsB_all hp
  have hl := len_data s
  have het : ((trS s).toList == ([] : List UInt8)) = false := by
    rw [Lib.toList_data] at he ⊢
    have e : (trS s).data.toList = s.data.toList.map trB := by simp [trS]
    rw [e]
    generalize s.data.toList = l at he ⊢
    cases l with
    | nil => exact he
    | cons c l => rfl
  have hk := ev_ex (run_both (trS s) (by rw [trS_size]; omega)).2
  rw [if_pos ⟨trS_points hp, het⟩] at hk
  have e : (trS s).data.toList = s.data.toList.map trB := by simp [trS]
  have et := lrun_turn s.data.toList none ⟨#[]⟩ 0 0
  have e0 : trS ⟨#[]⟩ = ⟨#[]⟩ := rfl
  rw [e0] at et
  unfold lrV at hk
  rw [e, show (none : Option UInt8) = (none : Option UInt8).map trB from rfl, et] at hk
  rw [Lib.toList_data] at he
  refine ⟨?_, ?_, ?_, hk⟩
  · generalize s.data.toList = l at he ⊢
    cases l with
    | nil => exact absurd he (by decide)
    | cons c l =>
      have e1 : lrun none (c :: l) ⟨#[]⟩ 0 0 = lrun (some c) l ⟨#[c]⟩ 1 1 := by simp [lrun]
      rw [e1]
      exact (lrun_bd l (some c) ⟨#[c]⟩ 1 1 (1 + l.length) (by omega) (by omega) (by omega)).1
  · exact (lrun_bd s.data.toList none ⟨#[]⟩ 0 0 s.size (by omega) (by omega) (by omega)).2
  · have : ∃ c, abB c = true ∧ (lrun none s.data.toList ⟨#[]⟩ 0 0).1 = ⟨#[c]⟩ := by
      have h1 := List.all_eq_true.1 hall
      generalize s.data.toList = l at he h1 ⊢
      cases l with
      | nil => exact absurd he (by decide)
      | cons c l =>
        have e1 : lrun none (c :: l) ⟨#[]⟩ 0 0 = lrun (some c) l ⟨#[c]⟩ 1 1 := by simp [lrun]
        rw [e1]
        exact lrun_side (fun c => abB c = true) l (fun x hx => h1 x (List.mem_cons_of_mem _ hx)) (some c) ⟨#[c]⟩ 1 1 ⟨c, h1 c (List.mem_cons_self ..), rfl⟩
    obtain ⟨c, hc, e⟩ := this
    rw [e]
    rcases abB_or hc with rfl | rfl
    · intro h
      exact absurd (congrArg (fun x => x.data.toList) h) (by decide)
    · intro h
      exact absurd (congrArg (fun x => x.data.toList) h) (by decide)
theorem a2_of (l1 : List Int) (To Lead : Int) (pt sd run sp : ByteArray) (t To3 Lead3 : Int) (pl : List ByteArray) (wins : Int)
    (dF : ∃ k, spec_DrawFewestToWin.f k l1 = some (To, Lead, pt, sd)) (dL : ∃ k, spec_DrawLongestRun.f k l1 = some run) (dS : ∃ k, spec_DrawServersOf.f k l1 = some (sp, t)) (dM : ∃ k, spec_DrawMatchOf.f k l1 = some (To3, Lead3, pl, wins))
    (hpt : pt.size ≤ 1000) (hsd : sd.size ≤ 1000) (hrun : run.size ≤ 1000) (hsp : sp.size ≤ 1000) (hpl : pl.length ≤ 1000) (hplz : ∀ x ∈ pl, x.size ≤ 1000) :
    ∃ (few : Nat) (nine : Bool) (who : ByteArray) (long : Int) (eleven : Bool) (sv : ByteArray) (thirteen : Bool) (c d : Int) (mt : ByteArray) (seventeen : Bool) (td : ByteArray) (nineteen : Bool), A2 l1 To Lead pt sd few nine run who long eleven sp t sv thirteen c d To3 Lead3 pl wins mt seventeen td nineteen := by
  obtain ⟨v, v1, v2, v3, v4, v5, v6⟩ := few_both To Lead pt sd (by omega)
  have hnn := few_nn v3 v4 v5 v6
  obtain ⟨r1, r2⟩ := run_both run (by omega)
  obtain ⟨u, u1, u2, u3⟩ := servers_both sp (by omega) t
  obtain ⟨p, p1, p2, p3⟩ := serve_both sp (by omega) t
  obtain ⟨m, m1, m2, m3⟩ := match_both To3 Lead3 pl wins (by omega) (fun x hx => by have := hplz x hx; omega)
  have t1 := turn_eq run
  have t2 := turn_ev run (by omega)
  obtain ⟨nm, hnm⟩ : ∃ n : Nat, v.1 = (n : Int) := ⟨v.1.toNat, (Int.toNat_of_nonneg hnn).symm⟩
  have ev : v = ((nm : Int), v.2) := by rw [← hnm]
  have hrl : ∃ (who : ByteArray) (long : Int) (eleven : Bool), (if pointsB run = true ∧ (run.toList == ([] : List UInt8)) = false then lrV none run.data.toList ⟨#[]⟩ 0 0 else ((⟨#[]⟩ : ByteArray), (0 : Int), false)) = (who, long, eleven) ∧ (eleven = true → pointsB run = true) ∧ ∃ (kk : Nat) (oth : ByteArray), eleven = true → 1 ≤ long ∧ long ≤ (run.size : Int) ∧ impl_LongestRun.f kk (trS run) = some (oth, long, true) ∧ oth ≠ who := by
    by_cases h : pointsB run = true ∧ (run.toList == ([] : List UInt8)) = false
    · rw [if_pos h]
      obtain ⟨a1, a2, a3, kk, a4⟩ := run_law h.1 h.2
      exact ⟨_, _, true, rfl, fun _ => h.1, kk, _, fun _ => ⟨a1, a2, a4, a3⟩⟩
    · rw [if_neg h]
      exact ⟨_, _, false, rfl, fun h' => absurd h' (by decide), 0, ⟨#[]⟩, fun h' => absurd h' (by decide)⟩
  obtain ⟨who, long, eleven, w1, w2, kk, oth, w3⟩ := hrl
  rw [w1] at r1 r2
  have hto : ∃ (td : ByteArray) (nineteen : Bool), (if pointsB run = true then (trS run, true) else ((⟨#[]⟩ : ByteArray), false)) = (td, nineteen) ∧ (pointsB run = true → nineteen = true ∧ td = trS run) := by
    by_cases h : pointsB run = true
    · rw [if_pos h]
      exact ⟨_, _, rfl, fun _ => ⟨rfl, rfl⟩⟩
    · rw [if_neg h]
      exact ⟨_, _, rfl, fun h' => absurd h' h⟩
  obtain ⟨td, nineteen, x1, x2⟩ := hto
  rw [x1] at t1 t2
  have hsv : ∃ (sv : ByteArray) (thirteen : Bool) (c d : Int), u = (sv, thirteen) ∧ p = (c, d, thirteen) ∧ ∃ (x y : Nat → Int), thirteen = true → SF sp sv t c d x y := by
    rcases u3 with ⟨rfl, q⟩ | ⟨rfl, q⟩
    · rcases p3 with ⟨rfl, q'⟩ | ⟨rfl, q'⟩
      · exact ⟨_, false, _, _, rfl, rfl, fun _ => 0, fun _ => 0, fun h => absurd h (by decide)⟩
      · rw [q] at q'
        exact absurd q' (by decide)
    · rcases p3 with ⟨rfl, q'⟩ | ⟨rfl, q'⟩
      · rw [q] at q'
        exact absurd q' (by decide)
      · exact ⟨_, true, _, _, rfl, rfl, _, _, fun _ => sf_of q⟩
  obtain ⟨sv, thirteen, c, d, rfl, rfl, x, y, hxy⟩ := hsv
  obtain ⟨mt, seventeen⟩ := m
  refine ⟨nm, v.2, who, long, eleven, sv, thirteen, c, d, mt, seventeen, td, nineteen, dF, dL, dS, dM, by rw [← ev]; exact ev_ex v2, by rw [← ev]; exact ev_ex v1, ev_ex r2, ev_ex r1, ev_ex u2, ev_ex u1, ev_ex p2, ev_ex p1, ev_ex m2, ev_ex m1, t1, ev_ex t2, fun h => (x2 (w2 h)).1, hpt, ?_, ?_, ⟨x, y, hxy⟩, ?_, ?_⟩
  · intro h1 h2
    exact ⟨by omega, hpt, hsd, few_law v3 v4 v5 v6 nm hnm h1 h2⟩
  · refine ⟨kk, oth, fun h => ?_⟩
    obtain ⟨a1, a2, a3, a4⟩ := w3 h
    rw [(x2 (w2 h)).2]
    exact ⟨a1, a2, a3, a4⟩
  · intro h
    have := (m3 h).2.1
    omega
  · refine ⟨avOf To3 Lead3 pl, fun h => ?_⟩
    obtain ⟨g1, g2, g3⟩ := m3 h
    refine mf_of g1 g2.1 ?_
    rw [← g3]
    exact Prod.ext rfl h
theorem big_eq (l0 l1 : List Int) : ∃ b, laws_big.f l0 l1 = some b ∧ (b = false → l0.length ≤ 1048576 ∧ l1.length ≤ 1048576) := by
  unfold laws_big.f
  by_cases h : (l0.length : Int) > 1048576
  · rw [if_pos h]
    exact ⟨true, rfl, fun h' => by cases h'⟩
  · rw [if_neg h]
    refine ⟨_, rfl, fun h' => ?_⟩
    have h2 := of_decide_eq_false h'
    rw [wrap_id (by omega) (by omega)] at h2
    omega
set_option maxHeartbeats 16000000 in
set_option maxRecDepth 1000000 in
theorem law_true (A0 : Option Addr) (c0 : Nat) (l0 : List Int) (A1_ : Option Addr) (c1 : Nat) (l1 : List Int) (w : World) (hr0 : Kd.C (Kd.int .u8) w A0 l0.length l0) (hc0 : l0.length ≤ c0) (hr1 : Kd.C (Kd.int .u8) w A1_ l1.length l1) (hc1 : l1.length ≤ c1)
    (hz0 : ∀ x ∈ l0, (Lit.int .u8 x).wf = true) (hz1 : ∀ x ∈ l1, (Lit.int .u8 x).wf = true) :
    Calls Tryz.prog 3 #[.slice A0 l0.length c0, .slice A1_ l1.length c1] w fun e w' => e = .returned (.bool true) ∧ Below w.heap.size w w' := by
  obtain ⟨b, hb, hbn⟩ := big_eq l0 l1
  cases b
  · obtain ⟨n0, n1⟩ := hbn rfl
    have B0 : Bytes l0 := ⟨fun x hx => bounds_u8 (hz0 x hx), n0⟩
    have B1 : Bytes l1 := ⟨fun x hx => bounds_u8 (hz1 x hx), n1⟩
    obtain ⟨To, Lead, s, hd, hs⟩ := draw_winner B0
    obtain ⟨W, nx, ok, is, seven, five, g, a, b, bk, f1⟩ := a1_of l0 To Lead s hd (by omega)
    obtain ⟨To2, Lead2, pt, sd, d2, hpt, hsd⟩ := draw_few B1
    obtain ⟨run, d3, hrun⟩ := draw_run B1
    obtain ⟨sp, t, d4, hsp⟩ := draw_servers B1
    obtain ⟨To3, Lead3, pl, wins, d5, hpl, hplz⟩ := draw_match B1
    obtain ⟨few, nine, who, long, eleven, sv, thirteen, c, d, mt, seventeen, td, nineteen, f2⟩ := a2_of l1 To2 Lead2 pt sd run sp t To3 Lead3 pl wins d2 d3 d4 d5 (by omega) (by omega) (by omega) (by omega) (by omega) (fun x hx => by have := hplz x hx; omega)
    exact law.calls A0 c0 l0 A1_ c1 l1 w hr0 hc0 hr1 hc1 hb To Lead s W nx ok is seven five g a b bk f1 To2 Lead2 pt sd few nine run who long eleven sp t sv thirteen c d To3 Lead3 pl wins mt seventeen td nineteen f2
  · have HR0 := Aside0.mk hr0
    have HC0 := Aside0.mk hc0
    have HR1 := Aside0.mk hr1
    have HC1 := Aside0.mk hc1
    have HG := Aside0.mk hb
    clear hr0 hc0 hr1 hc1 hb hbn hz0 hz1
    go_enter Tryz.func3, Tryz.ntmps3
    go_wp2_with (first
      | (go_at_call 4; (with_reducible refine (laws_big.calls A0 c0 l0 A1_ c1 l1 true _ HR0.out HC0.out HR1.out HC1.out HG.out).mono ?_); rintro e w1 ⟨rfl, ⟨m1, rfl⟩⟩))
    all_goals first
      | (go_ret; exact ⟨rfl, pw_below_drewN (Below.refl w.heap.size w) _⟩)
      | exact ⟨rfl, _, rfl, rfl, pw_below_drewN (Below.refl w.heap.size w) _⟩
end Go.Proofs.YtiknaldhjbdnbaaGreatDoor.Pure
