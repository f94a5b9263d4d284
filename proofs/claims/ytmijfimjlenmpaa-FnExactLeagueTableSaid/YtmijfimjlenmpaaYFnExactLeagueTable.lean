/- The pure statement of FnExactLeagueTable: no memory, no Go. -/
import Derived.Test.YtmijfimjlenmpaaQFnExactLeagueTablex
import Derived.Test.YtmijfimjlenmpaaYTable
namespace Go.Proofs.Ytmijfimjlenmpaa.Pure
open Go.RowKit Go.Proofs.Ytmijfimjlenmpaa.QFnExactMostPoints Go.Proofs.YtmijfimjlenmpaaW.PrintWords Go.Proofs.YtmijfimjlenmpaaW.PrintLast Go.Proofs.YtmijfimjlenmpaaW.PrintMore
set_option linter.unusedVariables false
set_option linter.unusedSimpArgs false
set_option linter.unusedSectionVars false

/-! marks: numbers in turn, written and read again -/
def seqFrom (a : Int) : Nat → List Int
  | 0 => []
  | n + 1 => a :: seqFrom (a + 1) n
theorem seqFrom_len (n : Nat) : ∀ a, (seqFrom a n).length = n := by
  induction n with
  | zero => intro a; rfl
  | succ n ih => intro a; simp [seqFrom, ih]
theorem mid_set (xs ys : List Int) (r v : Int) : (xs ++ r :: ys).set xs.length v = xs ++ v :: ys := by simp
theorem rd_mid (xs ys : List Int) (r : Int) : rd (xs ++ r :: ys) (xs.length : Int) = r := by unfold rd; simp
theorem markIntS_l0 (rest : List Int) : ∀ (done : List Int) (a : Int), done.length + rest.length ≤ 1048576 → 0 ≤ a → a + rest.length ≤ 1000000000000000000 →
    Ev (fun k => laws_markIntS.l0 k (done ++ rest) a (done.length : Int)) (a + rest.length, done ++ seqFrom a rest.length) := by
  induction rest with
  | nil =>
    intro done a hb h0 h1
    refine ev_some fun k => ?_
    simp only [laws_markIntS.l0]
    rw [if_neg (by simp)]
    simp [seqFrom]
  | cons r rest ih =>
    intro done a hb h0 h1
    simp only [List.length_cons] at hb h1
    have hi := ih (done ++ [a]) (a + 1) (by simp; omega) (by omega) (by omega)
    refine Ev.step (f := fun k => laws_markIntS.l0 k ((done ++ [a]) ++ rest) (a + 1) ((done ++ [a]).length : Int)) (fun k => ?_) ?_
    · simp only [laws_markIntS.l0]
      rw [if_pos (by simp; omega), if_pos (by omega), Int.toNat_natCast, mid_set, wrap_id (i := a + 1) (by omega) (by omega), wrap_id (i := (done.length : Int) + 1) (by omega) (by omega)]
      simp
    · have e : (a + 1) + (rest.length : Int) = a + ((r :: rest).length : Int) := by simp; omega
      rw [e] at hi
      simpa [seqFrom] using hi
theorem markIntS_ev (l : List Int) (hl : l.length ≤ 1048576) (a : Int) (h0 : 0 ≤ a) (h1 : a ≤ 100000000000000000) : Ev (fun k => laws_markIntS.f k l a) (a + l.length, seqFrom a l.length) := by
  have := markIntS_l0 l [] a (by simpa using hl) h0 (by omega)
  simpa [laws_markIntS.f] using this
theorem heldIntS_l0 (n : Nat) : ∀ (done : List Int) (a : Int), done.length + n ≤ 1048576 → 0 ≤ a → a + n ≤ 1000000000000000000 →
    Ev (fun k => laws_heldIntS.l0 k (done ++ seqFrom a n) a (done.length : Int)) (a + n) := by
  induction n with
  | zero =>
    intro done a hb h0 h1
    refine ev_some fun k => ?_
    simp only [laws_heldIntS.l0]
    rw [if_neg (by simp [seqFrom])]
    simp
  | succ n ih =>
    intro done a hb h0 h1
    have hi := ih (done ++ [a]) (a + 1) (by simp; omega) (by omega) (by omega)
    have hsz : (done ++ seqFrom a (n + 1)).length = done.length + n + 1 := by rw [List.length_append, seqFrom_len]; omega
    refine Ev.step (f := fun k => laws_heldIntS.l0 k ((done ++ [a]) ++ seqFrom (a + 1) n) (a + 1) ((done ++ [a]).length : Int)) (fun k => ?_) ?_
    · simp only [laws_heldIntS.l0]
      rw [if_pos (by omega), if_pos (by omega)]
      rw [show seqFrom a (n + 1) = a :: seqFrom (a + 1) n from rfl, rd_mid, if_pos rfl, wrap_id (i := a + 1) (by omega) (by omega), wrap_id (i := (done.length : Int) + 1) (by omega) (by omega)]
      simp
    · have e : (a + 1) + (n : Int) = a + ((n + 1 : Nat) : Int) := by omega
      rw [e] at hi
      exact hi
theorem heldIntS_ev (n : Nat) (hn : n ≤ 1048576) (a : Int) (h0 : 0 ≤ a) (h1 : a ≤ 100000000000000000) : Ev (fun k => laws_heldIntS.f k (seqFrom a n) a) (a + n) := by
  have := heldIntS_l0 n [] a (by simpa using hn) h0 (by omega)
  simpa [laws_heldIntS.f] using this
theorem eqIntS_l0 (l : List Int) (hl : l.length ≤ 1048576) (d : Nat) : ∀ i : Nat, i + d = l.length → Ev (fun k => laws_eqIntS.l0 k l l (i : Int)) true := by
  induction d with
  | zero =>
    intro i hi
    refine ev_some fun k => ?_
    simp only [laws_eqIntS.l0]
    rw [if_neg (by omega)]
  | succ d ih =>
    intro i hi
    refine Ev.step (f := fun k => laws_eqIntS.l0 k l l ((i + 1 : Nat) : Int)) (fun k => ?_) (ih (i + 1) (by omega))
    simp only [laws_eqIntS.l0]
    rw [if_pos (by omega), if_pos (by omega), if_pos (by omega)]
    simp only [if_true]
    rw [wrap_id (by omega) (by omega)]
    rfl
theorem eqIntS_ev (l : List Int) (hl : l.length ≤ 1048576) : Ev (fun k => laws_eqIntS.f k l l) true := by
  have := eqIntS_l0 l hl l.length 0 (by omega)
  simpa [laws_eqIntS.f] using this

theorem markResultS_l0 (n : Nat) : ∀ (x : List S68) (i : Nat) (a : Int), i + n = x.length → x.length ≤ 1048576 → 0 ≤ a → a + 4 * n ≤ 1000000000000000000 → ∃ y : List S68, Ev (fun k => laws_markResultS.l0 k x a (i : Int)) (a + 4 * n, y) := by
  induction n with
  | zero =>
    intro x i a hi hx h0 h1
    refine ⟨x, ev_some fun k => ?_⟩
    simp only [laws_markResultS.l0]
    rw [if_neg (by omega)]
    simp
  | succ n ih =>
    intro x i a hi hx h0 h1
    have w1 : wrap64 (a + 1) = a + 1 := wrap_id (by omega) (by omega)
    have w2 : wrap64 (a + 1 + 1) = a + 1 + 1 := wrap_id (by omega) (by omega)
    have w3 : wrap64 (a + 1 + 1 + 1) = a + 1 + 1 + 1 := wrap_id (by omega) (by omega)
    have w4 : wrap64 (a + 1 + 1 + 1 + 1) = a + 1 + 1 + 1 + 1 := wrap_id (by omega) (by omega)
    have w5 : wrap64 ((i : Int) + 1) = ((i + 1 : Nat) : Int) := by rw [wrap_id (by omega) (by omega)]; rfl
    have hstep : ∃ x' : List S68, x'.length = x.length ∧ ∀ k, laws_markResultS.l0 (k + 1) x a (i : Int) = laws_markResultS.l0 k x' (a + 1 + 1 + 1 + 1) ((i + 1 : Nat) : Int) := by
      refine ⟨?x, ?h1, ?h2⟩
      case h2 =>
        intro k
        simp only [laws_markResultS.l0]
        rw [if_pos (by omega), if_pos (by omega), w1, w2, w3, w4, w5]
        simp only [Option.bind_some]
        exact rfl
      case h1 => simp
    obtain ⟨x', hx', hs⟩ := hstep
    obtain ⟨y, hy⟩ := ih x' (i + 1) (a + 1 + 1 + 1 + 1) (by omega) (by omega) (by omega) (by omega)
    refine ⟨y, Ev.step hs ?_⟩
    have e : a + 1 + 1 + 1 + 1 + 4 * (n : Int) = a + 4 * ((n + 1 : Nat) : Int) := by omega
    rw [e] at hy
    exact hy
theorem markLeague_ev (p q : Int) (x : List S68) (hx : x.length ≤ 1048576) (a : Int) (h0 : 0 ≤ a) (h1 : a ≤ 1000) : ∃ y : List S68, Ev (fun k => laws_markLeague.f k p q x a) (a + 4 * x.length, y) := by
  obtain ⟨y, hy⟩ := markResultS_l0 x.length x 0 a (by omega) hx h0 (by omega)
  refine ⟨y, ?_⟩
  unfold laws_markLeague.f laws_markResultS.f
  exact Ev.bind (f := fun _ t => some (t.1, t.2)) hy (Ev.now _)

theorem FnExactLeagueTable : ∀ (a0_0 : Int) (a0_1 : Int) (l0_2 : List S71), (Lit.int .i64 a0_0).wf = true → (Lit.int .i64 a0_1).wf = true → l0_2.length ≤ 9223372036854775807 → ∃ k, laws_FnExactLeagueTable.f k a0_0 a0_1 l0_2 = some true := by
  intro a b l _ _ hl
  refine Ev.rounds ?_
  obtain ⟨z, hz, hc⟩ := szLeague_eq a b l hl
  unfold laws_FnExactLeagueTable.f
  simp only [hz, Option.bind_some]
  by_cases h : z < 0
  · simp only [h, if_true]
    exact Ev.now _
  · simp only [h, if_false]
    have hl2 : l.length ≤ 1048576 := by omega
    have hL : (l.map conv).length ≤ 1048576 := by simpa using hl2
    have both : ∃ v : List Int × Bool, v.1.length ≤ 1000 ∧ Ev (fun k => spec_LeagueTable.f k a b (l.map conv)) v ∧ Ev (fun k => impl_LeagueTable.f k a b (l.map conv)) v := by
      unfold spec_LeagueTable.f
      cases ht : goodB a b (l.map conv)
      · refine ⟨([], false), by simp, Ev.bind (lgGood_ev a b _ hL) ?_, ?_⟩
        · simp only [ht, Bool.false_eq_true, if_false]
          exact Ev.now _
        · unfold impl_LeagueTable.f
          have hgo : Ev (fun k => impl_GoalsOfTeams.f k a b (l.map conv)) ([], false) := by
            unfold impl_GoalsOfTeams.f
            refine Ev.bind (isLeague_ev a b _ hL) ?_
            simp only [ht, Bool.false_eq_true, if_false]
            exact Ev.now _
          refine Ev.bind hgo ?_
          simp only [Bool.false_eq_true, if_false]
          exact Ev.now _
      · obtain ⟨res, hr, hs, hi, _⟩ := table_both (good_of ht) ht
        refine ⟨(res, true), by show res.length ≤ 1000; omega, Ev.bind (lgGood_ev a b _ hL) ?_, hi⟩
        simp only [ht, if_true]
        exact Ev.bind (f := fun _ t => some (t, true)) hs (Ev.now _)
    obtain ⟨⟨v, f⟩, hv, hs, hi⟩ := both
    simp only at hv
    have hm := markIntS_ev v (by omega) 1 (by omega) (by omega)
    have hh := heldIntS_ev v.length (by omega) 1 (by omega) (by omega)
    have he := eqIntS_ev v (by omega)
    have h2 : Ev (fun k => laws_FnExactLeagueTable.j2 k (seqFrom 1 v.length) (1 + v.length) false) true := by
      refine Ev.step (f := fun k => (laws_heldIntS.f k (seqFrom 1 v.length) 1).bind fun t => if t < 0 then some false else if t = 1 + (v.length : Int) then some true else some false) (fun k => by simp [laws_FnExactLeagueTable.j2]) ?_
      refine Ev.bind hh ?_
      simp only [if_neg (show ¬ (1 + (v.length : Int)) < 0 by omega), if_true]
      exact Ev.now _
    have h1 : Ev (fun k => laws_FnExactLeagueTable.j1 k v f v false a b l) true := by
      refine Ev.step (f := fun k => (laws_markIntS.f k v 1).bind fun n => (laws_heldIntS.f k n.2 1).bind fun t => if t < 0 then some false else if t = n.1 then (laws_toLeague.f k a b l).bind fun q => (impl_LeagueTable.f k q.1 q.2.1 q.2.2).bind fun s => (laws_eqIntS.f k s.1 v).bind fun u => if u = true then laws_FnExactLeagueTable.j2 k n.2 n.1 (s.2 != f) else laws_FnExactLeagueTable.j2 k n.2 n.1 true else some false) (fun k => by simp [laws_FnExactLeagueTable.j1]) ?_
      refine Ev.bind hm ?_
      refine Ev.bind hh ?_
      simp only [if_neg (show ¬ (1 + (v.length : Int)) < 0 by omega), if_true]
      refine Ev.bind (toLeague_ev a b l hl2) ?_
      refine Ev.bind hi ?_
      refine Ev.bind he ?_
      simpa using h2
    obtain ⟨y, hy⟩ := markLeague_ev a b (l.map conv) hL 1 (by omega) (by omega)
    have h0 : Ev (fun k => laws_FnExactLeagueTable.j0 k v f v f false a b l a b (l.map conv)) true := by
      refine Ev.step (f := fun k => (laws_toLeague.f k a b l).bind fun p => (laws_eqLeague.f k a b (l.map conv) p.1 p.2.1 p.2.2).bind fun t => if t = true then (laws_markLeague.f k a b (l.map conv) 1).bind fun q => if q.1 < 0 then laws_FnExactLeagueTable.j1 k v f v true a b l else (laws_eqIntS.f k v v).bind fun s => if s = true then laws_FnExactLeagueTable.j1 k v f v (f != f) a b l else laws_FnExactLeagueTable.j1 k v f v true a b l else some false) (fun k => by simp [laws_FnExactLeagueTable.j0]) ?_
      refine Ev.bind (toLeague_ev a b l hl2) ?_
      refine Ev.bind (eqLeague_ev a b _ hL) ?_
      simp only [if_true]
      refine Ev.bind hy ?_
      simp only [if_neg (show ¬ (1 + 4 * ((l.map conv).length : Int)) < 0 by omega)]
      refine Ev.bind he ?_
      simpa using h1
    refine Ev.bind (toLeague_ev a b l hl2) ?_
    refine Ev.bind hs ?_
    refine Ev.bind (toLeague_ev a b l hl2) ?_
    refine Ev.bind hi ?_
    refine Ev.bind he ?_
    simpa using h0

end Go.Proofs.Ytmijfimjlenmpaa.Pure
