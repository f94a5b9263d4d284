/- The pure statement of FnExactCanBeFirst: no memory, no Go. -/
import Derived.Test.YtmijfimjlenmpaaQFnExactCanBeFirstx
import Derived.Test.YtmijfimjlenmpaaYFirsts
namespace Go.Proofs.Ytmijfimjlenmpaa.Pure
open Go.RowKit Go.Proofs.Ytmijfimjlenmpaa.QFnExactMostPoints Go.Proofs.YtmijfimjlenmpaaW.PrintWords Go.Proofs.YtmijfimjlenmpaaW.PrintLast Go.Proofs.YtmijfimjlenmpaaW.PrintMore
set_option linter.unusedVariables false
set_option linter.unusedSimpArgs false
set_option linter.unusedSectionVars false

theorem FnExactCanBeFirst : ∀ (a0_0 : Int) (a0_1 : Int) (l0_2 : List S71) (a1 : Int), (Lit.int .i64 a0_0).wf = true → (Lit.int .i64 a0_1).wf = true → l0_2.length ≤ 9223372036854775807 → (Lit.int .i64 a1).wf = true → ∃ k, laws_FnExactCanBeFirst.f k a0_0 a0_1 l0_2 a1 = some true := by
  intro a b l t _ _ hl _
  refine Ev.rounds ?_
  obtain ⟨z, hz, hc⟩ := szLeague_eq a b l hl
  unfold laws_FnExactCanBeFirst.f
  simp only [hz, Option.bind_some]
  by_cases h : z < 0
  · simp only [h, if_true]
    exact Ev.now _
  · simp only [h, if_false]
    have hl2 : l.length ≤ 1048576 := by omega
    have hL : (l.map conv).length ≤ 1048576 := by simpa using hl2
    obtain ⟨v, hv0, hv, hi, hsp⟩ := firsts_both a b (l.map conv) t hL
    have hi2 : Ev (fun k => impl_CanBeFirst.f k a b (l.map conv) t) (decide (v.1 > 0), v.2) := by
      unfold impl_CanBeFirst.f
      exact Ev.bind hi (Ev.now _)
    have hs : Ev (fun k => spec_CanBeFirst.f k a b (l.map conv) t) (decide (v.1 > 0), v.2) := by
      unfold spec_CanBeFirst.f
      refine Ev.bind (open_ev a b _ t hL) ?_
      rw [← hv]
      obtain ⟨v1, v2⟩ := v
      cases v2 with
      | false =>
        simp only [Bool.false_eq_true, if_false]
        rw [show v1 = 0 from hv0 rfl]
        exact Ev.now _
      | true =>
        simp only [if_true]
        have h1 := hsp rfl
        have h2 := Ev.bind h1 (f := fun _ x => some (decide (x > 0), true)) (Ev.now (decide (v1 > 0), true))
        simpa [Option.bind_assoc] using h2
    have hj : Ev (fun k => laws_FnExactCanBeFirst.j0 k false a b l a b (l.map conv)) true := by
      refine Ev.step (f := fun k => (laws_toLeague.f k a b l).bind fun p => (laws_eqLeague.f k a b (l.map conv) p.1 p.2.1 p.2.2).bind fun t => if t = true then some true else some false) (fun k => by simp [laws_FnExactCanBeFirst.j0]) ?_
      refine Ev.bind (toLeague_ev a b l hl2) ?_
      refine Ev.bind (eqLeague_ev a b _ hL) ?_
      exact Ev.now _
    refine Ev.bind (toLeague_ev a b l hl2) ?_
    refine Ev.bind hs ?_
    refine Ev.bind (toLeague_ev a b l hl2) ?_
    refine Ev.bind hi2 ?_
    simpa using hj

end Go.Proofs.Ytmijfimjlenmpaa.Pure
