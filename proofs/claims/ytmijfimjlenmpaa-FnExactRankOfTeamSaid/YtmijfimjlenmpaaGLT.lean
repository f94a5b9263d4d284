/- impl.LeagueTable, walked over the sort's contract. -/
import Derived.Test.YtmijfimjlenmpaaQTMx4
import Derived.Test.YtmijfimjlenmpaaGRow
import Derived.Laws.EntriesVeiled
import Derived.Lib.SliceRun
namespace Go.Proofs.Ytmijfimjlenmpaa.QFnExactMostPoints
open Go.RowKit Go.Proofs.YtmijfimjlenmpaaW.PrintWords Go.Proofs.YtmijfimjlenmpaaW.PrintLast Go.Proofs.YtmijfimjlenmpaaW.PrintMore
attribute [local go_sem] max2_int min2_int max_two min_two max_three min_three max_four min_four   -- for this text's walks alone
set_option linter.unusedVariables false
set_option linter.unusedSimpArgs false
def impl_LeagueTable.f (k : Nat) (a0_0 : Int) (a0_1 : Int) (l0_2 : List S68) : Option (List Int × Bool) := (impl_GoalsOfTeams.f k a0_0 a0_1 l0_2).bind fun q => if q.2 = true then ((impl_League_allPoints.f k a0_0 a0_1 l0_2).bind fun p => if (decide (1 ≤ a0_0) && okLT (a0_0.toNat - 1) p q.1) = true then some (outT (a0_0.toNat - 1) (sortT (a0_0.toNat - 1) p q.1), true) else none) else some ([], false)
theorem impl_LeagueTable.mono : ∀ a0 a1 a2 k, LeO (impl_LeagueTable.f k a0 a1 a2) (impl_LeagueTable.f (k + 1) a0 a1 a2) := by
  intro a0 a1 a2 k
  unfold impl_LeagueTable.f
  refine LeO.bind (impl_GoalsOfTeams.mono _ _ _ _) (fun q => LeO.ite (LeO.bind (impl_League_allPoints.mono _ _ _ _) (fun p => LeO.refl _)) (LeO.refl _))
theorem upT_succ (n : Nat) : upT (n + 1) = upT n ++ [(n : Int)] := by unfold upT; rw [List.range_succ, List.map_append]; rfl
set_option maxHeartbeats 8000000 in
set_option maxRecDepth 100000 in
theorem impl_LeagueTable.calls (k : Nat) (a0_0 : Int) (a0_1 : Int) (A0_2 : Option Addr) (c0_2 : Nat) (l0_2 : List (S68)) (r1 : List Int) (r2 : Bool) (w : World) (hr0_2 : Kd.C k68 w A0_2 l0_2.length l0_2) (hc0_2 : l0_2.length ≤ c0_2) (h : impl_LeagueTable.f k a0_0 a0_1 l0_2 = some (r1, r2)) :
    Calls Try.prog 20 #[.agg #[.int .i64 a0_0, .int .i64 a0_1, .slice A0_2 l0_2.length c0_2]] w fun e w' => ∃ v0_ : Value, e = .returned (.tuple #[v0_, .bool r2]) ∧ Kd.R (Kd.int .i64) 3 w' w.heap.size (fun _ => True) v0_ r1 ∧ Below w.heap.size w w' := by
  have hu30 := Try.underlying30
  have HR0_2 := Aside0.mk hr0_2
  have HC0_2 := Aside0.mk hc0_2
  clear hr0_2 hc0_2
  unfold impl_LeagueTable.f at h
  obtain ⟨⟨gs, t⟩, ht, H⟩ := Option.bind_eq_some_iff.1 h
  clear h
  have A3 := Aside0.mk ht
  clear ht
  cases t with
  | false =>
    obtain ⟨rfl, rfl⟩ := Prod.mk.inj (Option.some.inj H)
    clear H
    go_enter Try.func20, Try.ntmps20
    go_wp2_with (go_at_call 44; (with_reducible refine (impl_GoalsOfTeams.calls k a0_0 a0_1 A0_2 c0_2 l0_2 gs false _ ?sa ?sb A3.out).mono ?_); (case sa => exact Kd.C_alloc HR0_2.out _); (case sb => exact HC0_2.out); rintro e w2 ⟨v2, rfl, hS2, hb2⟩; have HB2 := Aside0.mk (below_step (below_alloc (Below.refl _ _) _) hb2); obtain ⟨AG, cG, eS⟩ := Kd.S_slice hS2; subst eS; clear hb2 hS2)
    go_ret2
    exact ⟨_, rfl, Kd.R_nil _ _ _ _ _, below_alloc HB2.out _⟩
  | true =>
    replace H := (if_pos rfl).symm.trans H
    obtain ⟨pts, hp, H⟩ := Option.bind_eq_some_iff.1 H
    have A7 := Aside0.mk hp
    clear hp
    by_cases hok : (decide (1 ≤ a0_0) && okLT (a0_0.toNat - 1) pts gs) = true
    · replace H := (if_pos hok).symm.trans H
      obtain ⟨rfl, rfl⟩ := Prod.mk.inj (Option.some.inj H)
      clear H
      simp only [Bool.and_eq_true, decide_eq_true_eq] at hok
      obtain ⟨o1, o2⟩ := hok
      have O1 := Aside0.mk o1
      have O2 := Aside0.mk o2
      clear o1 o2
      go_enter Try.func20, Try.ntmps20
      go_upto_region 5 with (first
        | (go_at_call 44; (with_reducible refine (impl_GoalsOfTeams.calls k a0_0 a0_1 A0_2 c0_2 l0_2 gs true _ ?sa ?sb A3.out).mono ?_); (case sa => exact Kd.C_alloc HR0_2.out _); (case sb => exact HC0_2.out); rintro e w2 ⟨v2, rfl, hS2, hb2⟩; have HB2 := Aside0.mk (below_step (below_alloc (Below.refl _ _) _) hb2); have BL2 := Aside0.mk (blk_below (blk_new w (.cells #[.int .i64 a0_0, .int .i64 a0_1, .slice A0_2 l0_2.length c0_2] 30)) hb2); obtain ⟨AG, cG, eS⟩ := Kd.S_slice hS2; subst eS; have HS2 := Aside0.mk hS2; have m0 : ∀ o, (w2.alloc o).cell? ⟨w.heap.size, 0, none⟩ = some (.int .i64 a0_0) := fun o => Lib.cell?_alloc_some o ((blk_cell BL2.out 0).trans rfl); have m1 : ∀ o, (w2.alloc o).cell? ⟨w.heap.size, 1, none⟩ = some (.int .i64 a0_1) := fun o => Lib.cell?_alloc_some o ((blk_cell BL2.out 1).trans rfl); have m2 : ∀ o, (w2.alloc o).cell? ⟨w.heap.size, 2, none⟩ = some (.slice A0_2 l0_2.length c0_2) := fun o => Lib.cell?_alloc_some o ((blk_cell BL2.out 2).trans rfl); clear hb2 hS2)
        | (go_at_call 33; (with_reducible refine (impl_League_allPoints.calls k a0_0 a0_1 A0_2 c0_2 l0_2 pts _ ?sa ?sb A7.out).mono ?_); (case sa => exact Kd.C_alloc (Kd.C_below HR0_2.out HB2.out) _); (case sb => exact HC0_2.out); rintro e w3 ⟨v3, rfl, hR3, hb3⟩; have HB3 := Aside0.mk (below_step (below_alloc HB2.out _) hb3); have BL3 := Aside0.mk (blk_below (blk_alloc BL2.out _) hb3); have BG3 := Aside0.mk (blk_below (blk_new w2 (.cells #[.slice AG gs.length cG] 46)) hb3); have CG3 := Aside0.mk (Kd.C_below (Kd.C_alloc (Kd.S_reads' HS2.out).2.2 _) hb3); obtain ⟨AP, cP, eR, hlP, hCP⟩ := Kd.R_reads hR3; subst eR; have CP3 := Aside0.mk hCP; clear hb3 hR3 hCP m0 m1 m2)
        | ((with_reducible refine gate_dst (N := 18) rfl ?_); refine Kd.R_lit (Kd.int .i64) _ 3 ?hg (N := 18) ?hd (xs := ([] : List Int)) (inner := []) (ok := fun _ => True) (okp := fun _ => True) ?hr ?hp (fun _ hk => hk) trivial (Below.refl _ _) (Nat.le_refl _) (by simp) ?_; (case hd => rfl); (case hg => rfl); (case hr => first | (go_simp; done) | (go_simp; rfl)); (case hp => exact (Reps.none _ _)); intro v4 w4 ho4 hb4 hg_ hnew_; clear hg_ hnew_; have HO4 := Aside0.mk ho4; have HB34 := Aside0.mk hb4; clear ho4 hb4))
      have BP0 : Aside0 ((w4.alloc (.cells #[.slice AP pts.length cP] 36)).heap[w4.heap.size]? = some (.cells #[.slice AP pts.length cP] 36 (0, 0))) := ⟨blk_new w4 _⟩
      have HBW : Aside0 (Below w3.heap.size w3 (w4.alloc (.cells #[.slice AP pts.length cP] 36))) := ⟨below_alloc HB34.out _⟩
      have HR5 : Aside0 (Kd.R (Kd.int .i64) 3 (w4.alloc (.cells #[.slice AP pts.length cP] 36)) w3.heap.size (fun _ => True) v4 (upT 0)) := ⟨Kd.R_alloc HO4.out _⟩
      have f0 : (w4.alloc (.cells #[.slice AP pts.length cP] 36)).cell? ⟨w.heap.size, 0, none⟩ = some (.int .i64 a0_0) := (blk_cell (blk_alloc (blk_below BL3.out HB34.out) _) 0).trans rfl
      obtain ⟨bp, hbp⟩ : ∃ b, b = w4.heap.size := ⟨_, rfl⟩
      rw [← hbp] at BP0 ⊢
      generalize (w4.alloc (.cells #[.slice AP pts.length cP] 36)) = w5 at BP0 HBW HR5 f0 ⊢
      clear hbp HB34 HO4 A3 A7 H HS2
      obtain ⟨N, hN⟩ : ∃ N, N = a0_0.toNat - 1 := ⟨_, rfl⟩
      rw [← hN] at O2
      have hN8 : N < 8 := by
        have := O2.out
        unfold okLT at this
        simp only [Bool.and_eq_true, decide_eq_true_eq] at this
        exact this.1
      have hNa : a0_0 = ((N + 1 : Nat) : Int) := by have := O1.out; omega
      have HN := Aside0.mk (And.intro hN8 hNa)
      have HNN := Aside0.mk hN
      clear hN8 hNa hN
      go_wp2
      go_loopg [7, 21] (N + 1) (fun gq v7 v21 wr => ∃ jq : Nat, v21 = .int .i64 (jq : Int) ∧ Aside0 (jq ≤ N + 1 ∧ N + 1 - jq ≤ gq) ∧ Aside0 (Kd.R (Kd.int .i64) 3 wr w3.heap.size (fun _ => True) v7 (upT jq)) ∧ Aside0 (wr.heap[bp]? = some (.cells #[.slice AP pts.length cP] 36 (0, 0))) ∧ Aside0 (Below w3.heap.size w3 wr))
      case atStart => exact ⟨0, rfl, ⟨Nat.zero_le _, Nat.sub_le _ _⟩, HR5, BP0, HBW⟩
      case round =>
        clear HR5 BP0 HBW f0
        obtain ⟨jq, rfl, HJ, HO7, BP, HB⟩ := hrel
        by_cases c : (jq : Int) < a0_0
        · have cb : decide ((jq : Int) < a0_0) = true := decide_eq_true c
          have hj8 : jq < 8 := by have := HN.out; have := HJ.out; omega
          have HJ8 := Aside0.mk hj8
          have hjn : jq + 1 ≤ N + 1 := by have := HN.out; omega
          have HJN := Aside0.mk hjn
          have hwj : wrap64 ((jq : Int) + 1) = ((jq + 1 : Nat) : Int) := by unfold wrap64; omega
          clear c hj8 hjn
          go_wp2_with (first | ((with_reducible refine gate_builtin (b := .append) (xs := #[.tmp 24, .tmp 26]) rfl ?_); at_builtin; refine Kd.R_append (Kd.int .i64) (w0 := w3) w3.heap.size rfl (.tmp 24) (.tmp 26) 36 3 (.int .i64 0) 8 rfl Try.underlying36 info3 rfl (by decide) (by omega) u7 (upT jq) (jq : Int) [.int .i64 (jq : Int)] (fun _ => True) (fun _ => False) rfl rfl ?aP (fun _ hk => hk.elim) ?aF ?aO ?aB ?aS ?aL ?_; (case aP => exact rfl); (case aB => exact (by repeat (first | (with_reducible first | exact HB.out | apply below_alloc | apply pw_below_drewN | apply below_drew1) | exact HB.out))); (case aF => exact (fun _ _ => trivial)); (case aO => exact (by (with_reducible repeat (first | apply Kd.R_alloc | apply Kd.R_drewN | apply Kd.R_drew)); exact HO7.out)); (case aS => exact (below_size (by repeat (first | (with_reducible first | exact HB.out | apply below_alloc | apply pw_below_drewN | apply below_drew1) | exact HB.out)))); (case aL => have := HJ8.out; rw [upT_length]; omega); intro v113 w15 ho hb hg hat; have n0_ := Aside0.mk (blk_grown (g := bp) (o := .cells #[.slice AP pts.length cP] 36 (0, 0)) (by (with_reducible repeat (first | refine blk_drewN ?_ _ | refine blk_drew ?_ | refine blk_alloc ?_ _)); exact BP.out) hg (Kd.R_ne HO7.out BP.out (by decide))); have n1_ := Aside0.mk (hb); have n2_ := Aside0.mk (ho); clear BP; clear HB; clear HO7; have BP := n0_; have HB := n1_; have HO := n2_; clear n0_ n1_ n2_; clear ho hb hg hat))
          go_roundg (N + 1 - (jq + 1))
          case measure => have := HJ.out; have := HJN.out; omega
          case rel => exact ⟨jq + 1, by first | rfl | (rw [hwj]; done) | (rw [hwj]; rfl) | (simp; done) | (simp [*]; done), ⟨HJN.out, Nat.le_refl _⟩, ⟨by rw [upT_succ]; exact HO.out⟩, BP, HB⟩
        · have cb : decide ((jq : Int) < a0_0) = false := decide_eq_false c
          have hj : jq = N + 1 := by have := HN.out; have := HJ.out; omega
          have HJE := Aside0.mk hj
          clear c hj
          have HS := Aside0.mk (sort.row N pts gs AP AG cP cG bp w2.heap.size w3 wr BP.out BG3.out CP3.out CG3.out O2.out HB.out u7 (by rw [← HJE.out]; exact HO7.out))
          go_wp2_with (go_at_call 45; refine HS.out.mono ?_; rintro e w6 ⟨rfl, hR6, hb6⟩; have HR6 := Aside0.mk hR6; have HB6 := Aside0.mk (below_step HB3.out hb6); clear hR6 hb6)
          go_ret2
          exact ⟨_, rfl, Kd.R_lower (by rw [← HNN.out]; exact HR6.out) (below_size HB3.out), HB6.out⟩
    · exact absurd ((if_neg hok).symm.trans H) (by simp)
end Go.Proofs.Ytmijfimjlenmpaa.QFnExactMostPoints
