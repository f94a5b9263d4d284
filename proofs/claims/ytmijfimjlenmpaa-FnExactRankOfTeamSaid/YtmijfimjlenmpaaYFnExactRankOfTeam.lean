/- The pure statement of FnExactRankOfTeam: no memory, no Go. -/
import Derived.Test.YtmijfimjlenmpaaQFnExactRankOfTeamx
import Derived.Test.YtmijfimjlenmpaaYTable
namespace Go.Proofs.Ytmijfimjlenmpaa.Pure
open Go.RowKit Go.Proofs.Ytmijfimjlenmpaa.QFnExactMostPoints Go.Proofs.YtmijfimjlenmpaaW.PrintWords Go.Proofs.YtmijfimjlenmpaaW.PrintLast Go.Proofs.YtmijfimjlenmpaaW.PrintMore
set_option linter.unusedVariables false
set_option linter.unusedSimpArgs false
set_option linter.unusedSectionVars false

theorem upT_nodup (n : Nat) : (upT n).Nodup := by
  unfold upT
  rw [List.nodup_iff_pairwise_ne, List.pairwise_map]
  exact (List.nodup_range (n := n)).imp (fun h e => h (by omega))
theorem nodup_at {res : List Int} (hnd : res.Nodup) {i j : Nat} (hi : i < res.length) (hj : j < res.length) (h : res[i] = res[j]) : i = j := (List.getElem_inj hnd).1 h
theorem rank_spec (t : Int) (res : List Int) (hnd : res.Nodup) (h8 : res.length ≤ 8) (n : Nat) (hn : n < res.length) (he : res[n] = t) (d : Nat) : ∀ i : Nat, i + d = res.length → Ev (fun k => spec_RankOfTeam.l0 k t (if n < i then (n : Int) + 1 else 0) res (res.length : Int) (i : Int)) ((n : Int) + 1, true) := by
  induction d with
  | zero =>
    intro i hi
    rw [if_pos (by omega)]
    refine ev_some fun k => ?_
    simp only [spec_RankOfTeam.l0]
    rw [if_neg (by omega)]
  | succ d ih =>
    intro i hi
    have hlt : i < res.length := by omega
    refine Ev.step (fun k => ?_) (ih (i + 1) (by omega))
    simp only [spec_RankOfTeam.l0]
    rw [if_pos (by omega), if_pos (by omega), if_pos (by omega), rd_nat res i hlt, wrap_id (by omega) (by omega)]
    by_cases c : res[i] = t
    · have : i = n := nodup_at hnd hlt hn (c.trans he.symm)
      subst this
      rw [if_pos c, if_pos (by omega)]
      rfl
    · have : i ≠ n := fun e => c (by subst e; exact he)
      rw [if_neg c]
      by_cases q : n < i
      · rw [if_pos q, if_pos (by omega)]
        rfl
      · rw [if_neg q, if_neg (by omega)]
        rfl
theorem rank_impl (t : Int) (res : List Int) (hnd : res.Nodup) (h8 : res.length ≤ 8) (n : Nat) (hn : n < res.length) (he : res[n] = t) (d : Nat) : ∀ i : Nat, i + d = n → Ev (fun k => slices_Index_int_int.l0 k res t (res.length : Int) (i : Int)) (n : Int) := by
  induction d with
  | zero =>
    intro i hi
    obtain rfl : i = n := by omega
    refine ev_some fun k => ?_
    simp only [slices_Index_int_int.l0]
    rw [if_pos (by omega), if_pos (by omega), if_pos (by omega), rd_nat res i hn, if_pos he.symm]
  | succ d ih =>
    intro i hi
    have hlt : i < res.length := by omega
    refine Ev.step (fun k => ?_) (ih (i + 1) (by omega))
    simp only [slices_Index_int_int.l0]
    rw [if_pos (by omega), if_pos (by omega), if_pos (by omega), rd_nat res i hlt, wrap_id (by omega) (by omega), if_neg (fun e => ?_)]
    · rfl
    · have := nodup_at hnd hlt hn (e.symm.trans he.symm)
      omega

theorem FnExactRankOfTeam : ∀ (a0_0 : Int) (a0_1 : Int) (l0_2 : List S71) (a1 : Int), (Lit.int .i64 a0_0).wf = true → (Lit.int .i64 a0_1).wf = true → l0_2.length ≤ 9223372036854775807 → (Lit.int .i64 a1).wf = true → ∃ k, laws_FnExactRankOfTeam.f k a0_0 a0_1 l0_2 a1 = some true := by
  intro a b l t _ _ hl _
  refine Ev.rounds ?_
  obtain ⟨z, hz, hc⟩ := szLeague_eq a b l hl
  unfold laws_FnExactRankOfTeam.f
  simp only [hz, Option.bind_some]
  by_cases h : z < 0
  · simp only [h, if_true]
    exact Ev.now _
  · simp only [h, if_false]
    have hl2 : l.length ≤ 1048576 := by omega
    have hL : (l.map conv).length ≤ 1048576 := by simpa using hl2
    have both : ∃ v : Int × Bool, Ev (fun k => spec_RankOfTeam.f k a b (l.map conv) t) v ∧ Ev (fun k => impl_RankOfTeam.f k a b (l.map conv) t) v := by
      unfold spec_RankOfTeam.f impl_RankOfTeam.f
      cases ht : teamB a b (l.map conv) t
      · refine ⟨(0, false), Ev.bind (lgTeam_ev a b _ t hL) ?_, Ev.bind (isTeam_ev a b _ t hL) ?_⟩
        · simp only [ht, Bool.false_eq_true, if_false]
          exact Ev.now _
        · simp only [ht, Bool.false_eq_true, if_false]
          exact Ev.now _
      · obtain ⟨g, t0, t1⟩ := team_of ht
        have hgood : goodB a b (l.map conv) = true := by unfold teamB at ht; simp only [Bool.and_eq_true] at ht; exact ht.1
        obtain ⟨res, hr, hs, hi, hpm⟩ := table_both g hgood
        have ha := g.ha
        have hnd : res.Nodup := hpm.nodup_iff.2 (upT_nodup _)
        have hmem : t ∈ res := hpm.mem_iff.2 (mem_upT.2 (by omega))
        obtain ⟨n, hn, he⟩ := List.mem_iff_getElem.1 hmem
        refine ⟨((n : Int) + 1, true), Ev.bind (lgTeam_ev a b _ t hL) ?_, Ev.bind (isTeam_ev a b _ t hL) ?_⟩
        · simp only [ht, if_true]
          refine Ev.bind hs ?_
          have := rank_spec t res hnd hr n hn he res.length 0 (by omega)
          simpa using this
        · simp only [ht, if_true]
          refine Ev.bind hi ?_
          have := rank_impl t res hnd hr n hn he n 0 (by omega)
          refine Ev.bind this ?_
          rw [wrap_id (by omega) (by omega)]
          exact Ev.now _
    obtain ⟨⟨v, f⟩, hs, hi⟩ := both
    have hj : Ev (fun k => laws_FnExactRankOfTeam.j0 k false a b l a b (l.map conv)) true := by
      refine Ev.step (f := fun k => (laws_toLeague.f k a b l).bind fun p => (laws_eqLeague.f k a b (l.map conv) p.1 p.2.1 p.2.2).bind fun t => if t = true then some true else some false) (fun k => by simp [laws_FnExactRankOfTeam.j0]) ?_
      refine Ev.bind (toLeague_ev a b l hl2) ?_
      refine Ev.bind (eqLeague_ev a b _ hL) ?_
      exact Ev.now _
    refine Ev.bind (toLeague_ev a b l hl2) ?_
    refine Ev.bind hs ?_
    refine Ev.bind (toLeague_ev a b l hl2) ?_
    refine Ev.bind hi ?_
    simpa using hj

end Go.Proofs.Ytmijfimjlenmpaa.Pure
