/- slices.ContainsFunc over results with the closure of impl.LeftResults: is there a game of a at home against b? Condition: both cells that the closure holds lie where they are read. -/
import Derived.Test.YtmijfimjlenmpaaQFnExactMostPointsx0
import Derived.Lib.SliceRun
namespace Go.Proofs.Ytmijfimjlenmpaa.QFnExactMostPoints
open Go.RowKit Go.Proofs.YtmijfimjlenmpaaW.PrintWords Go.Proofs.YtmijfimjlenmpaaW.PrintLast Go.Proofs.YtmijfimjlenmpaaW.PrintMore
set_option linter.unusedVariables false
set_option linter.unusedSimpArgs false

set_option maxHeartbeats 8000000 in
set_option maxRecDepth 100000 in
theorem closure.calls (ga gb : Nat) (a b : Int) (r : S68) (w : World) (ha : w.cell? ⟨ga, 0, none⟩ = some (.int .i64 a)) (hb : w.cell? ⟨gb, 0, none⟩ = some (.int .i64 b)) :
    Calls Try.prog 54 #[.agg #[.int .i64 r.f0, .int .i64 r.f1, .int .i64 r.f2, .int .i64 r.f3], .pointer (some ⟨ga, 0, none⟩), .pointer (some ⟨gb, 0, none⟩)] w fun e w' => e = .returned (.bool (decide (r.f0 = a ∧ r.f1 = b))) ∧ Below w.heap.size w w' := by
  have ha' : ∀ o, (w.alloc o).cell? ⟨ga, 0, none⟩ = some (.int .i64 a) := fun o => Lib.cell?_alloc_some o ha
  have hb' : ∀ o, (w.alloc o).cell? ⟨gb, 0, none⟩ = some (.int .i64 b) := fun o => Lib.cell?_alloc_some o hb
  have hu := Try.underlying68
  by_cases c0 : r.f0 = a
  · have c0b := beq_iff_eq.2 c0
    by_cases c1 : r.f1 = b
    · have c1b := beq_iff_eq.2 c1
      go_enter Try.func54, Try.ntmps54
      go_wp2
      go_ret
      exact ⟨by simp [c0, c1], below_alloc (Below.refl _ _) _⟩
    · have c1b : (r.f1 == b) = false := beq_eq_false_iff_ne.2 c1
      go_enter Try.func54, Try.ntmps54
      go_wp2
      go_ret
      exact ⟨by simp [c1], below_alloc (Below.refl _ _) _⟩
  · have c0b : (r.f0 == a) = false := beq_eq_false_iff_ne.2 c0
    go_enter Try.func54, Try.ntmps54
    go_wp2
    go_ret
    exact ⟨by simp [c0], below_alloc (Below.refl _ _) _⟩

def ixL (a b : Int) : Nat → List S68 → Int → Option Int
  | 0, _, _ => none
  | k + 1, l, i => if i < (l.length : Int) then (if 0 ≤ i then (if (rd_T68 l i).f0 = a ∧ (rd_T68 l i).f1 = b then some i else ixL a b k l (wrap64 (i + 1))) else none) else some (-1)

set_option maxHeartbeats 8000000 in
set_option maxRecDepth 100000 in
theorem indexFunc.calls (k : Nat) (ga gb : Nat) (a b : Int) (A0 : Option Addr) (c0 : Nat) (l0 : List S68) (r : Int) (w : World) (ha : w.cell? ⟨ga, 0, none⟩ = some (.int .i64 a)) (hb : w.cell? ⟨gb, 0, none⟩ = some (.int .i64 b))
    (hr0 : Kd.C k68 w A0 l0.length l0) (hc0 : l0.length ≤ c0) (h : ixL a b k l0 0 = some r) :
    Calls Try.prog 61 #[.slice A0 l0.length c0, .func (Fn.func 54) #[] #[.pointer (some ⟨ga, 0, none⟩), .pointer (some ⟨gb, 0, none⟩)]] w fun e w' => e = .returned (.int .i64 r) ∧ Below w.heap.size w w' := by
  have HR0 := Aside0.mk hr0
  have HC0 := Aside0.mk hc0
  have HGA := Aside0.mk ha
  have HGB := Aside0.mk hb
  clear hr0 hc0 ha hb
  have HB := Aside0.mk (Below.refl w.heap.size w)
  have H' := Aside0.mk h
  clear h
  go_enter Try.func61, Try.ntmps61
  go_wp2
  go_loopg [8] k (fun kq v8 w' => ∃ (x8_1 : Int), v8 = .int .i64 x8_1 ∧ Aside0 (ixL a b kq l0 x8_1 = some r) ∧ Aside0 (kq ≤ k) ∧ Aside0 (Below w.heap.size w w'))
  case atStart => exact ⟨(0), (by first | rfl | (simp; done) | (simp [*]; done)), H', ⟨Nat.le_refl _⟩, ⟨HB.out⟩⟩
  case round =>
    clear H'
    obtain ⟨x8_1, rfl, HA, HK1, HB⟩ := hrel
    cases gk with
    | zero => exact absurd HA.out (by simp [ixL])
    | succ k1 =>
      have H := HA.out
      clear HA
      simp only [ixL] at H
      by_cases c3 : x8_1 < (l0.length : Int)
      · rw [if_pos c3] at H
        have c3b0 : decide (x8_1 < (l0.length : Int)) = true := decide_eq_true c3
        clear c3
        by_cases c4 : 0 ≤ x8_1
        · rw [if_pos c4] at H
          have c4b0 : decide (0 ≤ x8_1) = true := decide_eq_true c4
          clear c4
          have p5 : 0 ≤ (x8_1 : Int) := of_decide_eq_true (by first | (with_reducible assumption) | assumption)
          have q5 : x8_1 < (l0.length : Int) := of_decide_eq_true (by first | (with_reducible assumption) | assumption)
          obtain ⟨ad5, e5, hx5_0, hx5_1, hx5_2, hx5_3⟩ := at_T68 (Kd.C_below HR0.out HB.out) x8_1 p5 q5
          cases e5
          replace p5 := eq_true p5
          replace q5 := eq_true q5
          have hga : wr.cell? ⟨ga, 0, none⟩ = some (.int .i64 a) := (World.cell?_of_block (HB.out.block ga (World.block_lt_of_cell? w _ HGA.out))).trans HGA.out
          have hgb : wr.cell? ⟨gb, 0, none⟩ = some (.int .i64 b) := (World.cell?_of_block (HB.out.block gb (World.block_lt_of_cell? w _ HGB.out))).trans HGB.out
          have HGA5 := Aside0.mk hga
          have HGB5 := Aside0.mk hgb
          clear hga hgb
          by_cases c6 : (rd_T68 l0 x8_1).f0 = a ∧ (rd_T68 l0 x8_1).f1 = b
          · rw [if_pos c6] at H
            obtain rfl := Option.some.inj H
            have C6 := Aside0.mk c6
            clear c6
            go_wp2_with (go_at_call 54; refine (closure.calls ga gb a b (rd_T68 l0 x8_1) wr HGA5.out HGB5.out).mono ?_; rw [decide_eq_true C6.out]; rintro e w9 ⟨rfl, hB9⟩; have HB9 := Aside0.mk (below_step HB.out hB9); clear hB9)
            go_ret
            exact ⟨rfl, HB9.out⟩
          · rw [if_neg c6] at H
            have H' := Aside0.mk H
            clear H
            have C6 := Aside0.mk c6
            clear c6
            go_wp2_with (go_at_call 54; refine (closure.calls ga gb a b (rd_T68 l0 x8_1) wr HGA5.out HGB5.out).mono ?_; rw [decide_eq_false C6.out]; rintro e w9 ⟨rfl, hB9⟩; have HB9 := Aside0.mk (below_step HB.out hB9); clear hB9)
            go_roundg k1
            case measure => have := HK1.out; omega
            case rel => exact ⟨(wrap64 (x8_1 + 1)), (by first | rfl | (simp; done) | (simp [*]; done)), H', ⟨by have := HK1.out; omega⟩, HB9⟩
        · rw [if_neg c4] at H
          exact absurd H (by simp)
      · rw [if_neg c3] at H
        have c3b0 : decide (x8_1 < (l0.length : Int)) = false := decide_eq_false c3
        clear c3
        obtain rfl := Option.some.inj H
        go_wp2
        go_ret
        exact ⟨rfl, HB.out⟩

theorem ixL_ev (a b : Int) (l : List S68) (hl : l.length ≤ 9223372036854775807) (d : Nat) : ∀ i : Nat, i + d = l.length → ∃ r, ixL a b (d + 1) l (i : Int) = some r ∧ (decide (0 ≤ r) = (l.drop i).any fun s => decide (s.f0 = a ∧ s.f1 = b)) := by
  induction d with
  | zero =>
    intro i hi
    refine ⟨-1, ?_, ?_⟩
    · unfold ixL
      rw [if_neg (by omega)]
    · rw [List.drop_of_length_le (by omega)]
      rfl
  | succ d ih =>
    intro i hi
    have hlt : i < l.length := by omega
    have hr : rd_T68 l (i : Int) = l[i] := by unfold rd_T68; simp [List.getD_eq_getElem?_getD, List.getElem?_eq_getElem hlt]
    unfold ixL
    rw [if_pos (by omega), if_pos (by omega), hr, List.drop_eq_getElem_cons hlt, List.any_cons]
    by_cases c : l[i].f0 = a ∧ l[i].f1 = b
    · refine ⟨i, by rw [if_pos c], ?_⟩
      rw [decide_eq_true c, Bool.true_or]
      exact decide_eq_true (by omega)
    · obtain ⟨r, h1, h2⟩ := ih (i + 1) (by omega)
      have hw : wrap64 ((i : Int) + 1) = ((i + 1 : Nat) : Int) := by unfold wrap64; omega
      refine ⟨r, by rw [if_neg c, hw, h1], ?_⟩
      rw [decide_eq_false c, Bool.false_or]
      exact h2
/-- Is there a game of a at home against b? -/
def hasGame.f (l0 : List S68) (a b : Int) : Option Bool := some (l0.any fun s => decide (s.f0 = a ∧ s.f1 = b))
set_option maxHeartbeats 8000000 in
set_option maxRecDepth 100000 in
theorem containsFunc.calls (ga gb : Nat) (a b : Int) (A0 : Option Addr) (c0 : Nat) (l0 : List S68) (r : Bool) (w : World) (ha : w.cell? ⟨ga, 0, none⟩ = some (.int .i64 a)) (hb : w.cell? ⟨gb, 0, none⟩ = some (.int .i64 b))
    (hr0 : Kd.C k68 w A0 l0.length l0) (hc0 : l0.length ≤ c0) (h : hasGame.f l0 a b = some r) :
    Calls Try.prog 53 #[.slice A0 l0.length c0, .func (Fn.func 54) #[] #[.pointer (some ⟨ga, 0, none⟩), .pointer (some ⟨gb, 0, none⟩)]] w fun e w' => e = .returned (.bool r) ∧ Below w.heap.size w w' := by
  obtain ⟨x, hx, hxr⟩ := ixL_ev a b l0 hr0.2.1 l0.length 0 (by omega)
  rw [List.drop_zero] at hxr
  have hr2 : decide (0 ≤ x) = r := hxr.trans (Option.some.inj h)
  have HX := Aside0.mk (indexFunc.calls (l0.length + 1) ga gb a b A0 c0 l0 x w ha hb hr0 hc0 hx)
  clear ha hb hr0 hc0 h hx hxr
  subst hr2
  go_enter Try.func53, Try.ntmps53
  go_wp2_with fail
  refine HX.out.mono ?_
  rintro e w9 ⟨rfl, hB9⟩
  have HB9 := Aside0.mk hB9
  clear hB9 HX
  go_wp2
  go_ret
  exact ⟨by first | rfl | (simp; done) | (simp [Int.not_lt]; done), HB9.out⟩
end Go.Proofs.Ytmijfimjlenmpaa.QFnExactMostPoints
