/- Maps from pairs of whole numbers to bools that a call of its own makes: what the block is good for, as one word, and its laws at the operations. No condition beside those that each law names. -/
import Derived.Test.YtmijfimjlenmpaaProg
import Derived.Maps.OwnOps
import Derived.Maps.OwnSet
import Derived.Maps.Views
import Derived.DeepKeys4
import Derived.WalkKit
import Derived.KernelRfl
import Derived.Below
import Derived.Test.YtmijfimjlenmpaaWWords
namespace Go.Proofs.Ytmijfimjlenmpaa.GMap
open Go.RowKit Go.ChangeMaps Go.Maps Go.MapKept Go.Proofs.YtmijfimjlenmpaaW.PrintWords
set_option linter.unusedVariables false
set_option linter.unusedSimpArgs false

theorem laidOut : laidOutB Try.prog = true := by kernel_rfl
theorem row : (58 : TypeId) < Try.prog.types.size := of_decide_eq_true (by kernel_rfl)
theorem wide : (match Try.prog.underlying 58 with | some (.array _ _) | some (.struct _) => true | _ => false) = true := by rw [Try.underlying58]
theorem law : WideMaps.KeyLaw Try.prog 58 := deep_law_laid laidOut (m := 2) (by omega) row (by kernel_rfl) wide
theorem keyed : Keyed Try.prog 58 := Keyed.of_law law
theorem ktype : Try.prog.keyType 58 = true := by kernel_rfl
theorem tsize : Try.prog.types.size = 101 := by kernel_rfl

def pairV (x y : Int) : Value := .agg #[.int .i64 x, .int .i64 y]

theorem lit_one (d : Nat) (z : Int) (hz : (Lit.int .i64 z).wf = true) : Try.prog.keyLits (d + 1) 3 [.int .i64 z] = some [.int .i64 z] := by
  unfold Program.keyLits
  rw [Try.underlying3]
  simp [hz]
theorem lits (d : Nat) (x y : Int) (hx : (Lit.int .i64 x).wf = true) (hy : (Lit.int .i64 y).wf = true) : Try.prog.keyLits (d + 2) 58 [.int .i64 x, .int .i64 y] = some [.int .i64 x, .int .i64 y] := by
  have hc : Try.prog.cellsOf 3 = 1 := by kernel_rfl
  have hcK : Try.prog.cellsOf 58 = 2 := by kernel_rfl
  have h1 := lit_one d x hx
  have h2 := lit_one d y hy
  have hr : List.range 2 = [0, 1] := rfl
  unfold Program.keyLits
  rw [Try.underlying58]
  simp only [hcK, hc, hr]
  rw [if_pos (by rfl)]
  simp [h1, h2]
theorem key (x y : Int) (hx : (Lit.int .i64 x).wf = true) (hy : (Lit.int .i64 y).wf = true) : ∃ kl, keyOf Try.prog 58 (.agg #[.int .i64 x, .int .i64 y]) = some kl := by
  have hcK : Try.prog.cellsOf 58 = 2 := by kernel_rfl
  have hl := lits (101 - 1) x y hx hy
  have hf : (Value.agg #[.int .i64 x, .int .i64 y]).formed Try.prog 58 = true := by simp [Value.formed, Try.underlying58, hcK]
  unfold keyOf
  rw [Try.underlying58]
  simp only [ktype, hf, Bool.and_self, if_true]
  rw [tsize]
  rw [show (101 + 1 : Nat) = (101 - 1) + 2 from rfl]
  rw [show (Value.agg #[.int .i64 x, .int .i64 y]).cells.toList = [.int .i64 x, .int .i64 y] from rfl, hl]
  exact ⟨_, rfl⟩

/-- Block b is a map that holds true just at the pairs of s. -/
structure HasSet (w : World) (b : Nat) (s : List (Int × Int)) : Prop where
  mk :: (out : ∃ n D, w.ownsMap (H := Unit) Try.prog 58 (plainElem Try.prog 4) b n D ∧ n ≤ s.length ∧
    ∀ x y kl, keyOf Try.prog 58 (.agg #[.int .i64 x, .int .i64 y]) = some kl → D.atKey kl (.lit (.bool false)) = .lit (.bool (decide ((x, y) ∈ s))))

theorem HasSet.made (w : World) : HasSet (w.alloc (.map #[] 0)) w.heap.size [] :=
  ⟨0, _, World.ownsMap_made w _ _ _, Nat.le_refl _, fun x y kl _ => by simp [DataW.atKey]⟩

section
variable {w w' : World} {b : Nat} {s : List (Int × Int)}
theorem HasSet.lt (h : HasSet w b s) : b < w.heap.size := by
  obtain ⟨n, D, ho, _⟩ := h.out
  exact ho.lt
theorem HasSet.kept (h : HasSet w b s) {rw_ : Option Nat} (hg : w.grownBy w' rw_) (hne : some b ≠ rw_) : HasSet w' b s := by
  obtain ⟨n, D, ho, r⟩ := h.out
  exact ⟨n, D, ho.kept hg hne, r⟩
theorem HasSet.below (h : HasSet w b s) (hb : Below w.heap.size w w') : HasSet w' b s := h.kept (grown_of_below hb none) (by simp)
theorem HasSet.alloc (h : HasSet w b s) (o : Obj) : HasSet (w.alloc o) b s := h.below (below_alloc (Below.refl _ _) o)
theorem HasSet.drew (h : HasSet w b s) : HasSet w.drew b s := h.below (below_drew (Below.refl _ _))
theorem HasSet.drewN (h : HasSet w b s) (n : Nat) : HasSet (w.drewN n) b s := h.below (pw_below_drewN (Below.refl _ _) n)
theorem HasSet.far (h : HasSet w b s) {g j : Nat} (hne : b ≠ g) (u : Value) : HasSet (w.setCell ⟨g, j, none⟩ u) b s := by
  obtain ⟨n, D, ho, r⟩ := h.out
  exact ⟨n, D, ho.setCell hne u, r⟩
theorem HasSet.ne_cells (h : HasSet w b s) {g : Nat} {cs : Array Value} {t : TypeId} {fr : Nat × Nat} (hb : w.heap[g]? = some (.cells cs t fr)) : some g ≠ some b := by
  obtain ⟨n, D, ⟨es, clock, hm, _⟩, _⟩ := h.out
  intro e
  injection e with e
  subst e
  rw [hm] at hb
  cases hb

theorem bool_inv {v : Value} {c : Bool} {ps : List MemPlace} (h : plainElem (H := Unit) Try.prog 4 v = some (.lit (.bool c), ps)) : v = .bool c := by
  unfold plainElem at h
  rw [Try.underlying4] at h
  cases v <;> simp at h
  obtain ⟨rfl, _⟩ := h
  rfl

theorem HasSet.look (h : HasSet w b s) (x y : Int) (hx : (Lit.int .i64 x).wf = true) (hy : (Lit.int .i64 y).wf = true) :
    (Instr.lookup 79 (.map (some b)) (.agg #[.int .i64 x, .int .i64 y]) false).run Try.prog w = .ok (.bool (decide ((x, y) ∈ s))) w := by
  obtain ⟨n, D, ho, _, hat⟩ := h.out
  obtain ⟨kl, hk⟩ := key x y hx hy
  obtain ⟨v, ps, hrun, hv⟩ := ho.lookup keyed Try.underlying79 (z := .bool false) (by kernel_rfl) (plainElem_bool Try.underlying4 false) hk
  rw [hat x y kl hk] at hv
  rw [hrun, bool_inv hv]

theorem HasSet.put (h : HasSet w b s) (hs : s.length < maxLen) (x y : Int) (hx : (Lit.int .i64 x).wf = true) (hy : (Lit.int .i64 y).wf = true) :
    ∃ w', (Instr.mapUpdate 79 (.map (some b)) (.agg #[.int .i64 x, .int .i64 y]) (.bool true)).run Try.prog w = .ok () w' ∧ HasSet w' b ((x, y) :: s) ∧ w.grownBy w' (some b) := by
  obtain ⟨n, D, ho, hn, hat⟩ := h.out
  obtain ⟨kl, hk⟩ := key x y hx hy
  obtain ⟨w', hrun, ho', hg⟩ := ho.update keyed Try.underlying79 (Nat.lt_of_le_of_lt hn hs) hk (plainElem_bool Try.underlying4 true)
  refine ⟨w', hrun, ⟨n + 1, _, ho', by simp only [List.length_cons]; omega, fun x' y' kl' hk' => ?_⟩, hg⟩
  by_cases e : kl' = kl
  · subst e
    have hv := keyed.inj hk hk'
    injection hv with hv
    simp only [Array.mk.injEq, List.cons.injEq, Value.int.injEq, true_and, and_true] at hv
    obtain ⟨rfl, rfl⟩ := hv
    rw [atKey_put_same (World.ownsMap.isMap ho) (keyed.key hk)]
    simp
  · rw [atKey_put_other e, hat x' y' kl' hk']
    have hne : ¬ ((x', y') = (x, y)) := by
      intro e2
      simp only [Prod.mk.injEq] at e2
      obtain ⟨rfl, rfl⟩ := e2
      rw [hk] at hk'
      exact e (Option.some.inj hk').symm
    simp [List.mem_cons, hne]
end

section
variable {ops : Array Oper} {rest : List Oper} {o : Oper} {a : Act} {Q : Exit → Act → World → Prop} {W : World}
theorem map_event (hgd : o.guard = none) {N : Tmp} (_hd : o.dst = some N)
    (hrun : (execOp a.eval o).run Try.prog W = .ok (.value (.map (some W.heap.size))) (W.alloc (.map #[] 0)))
    (h : ∀ g, g = W.heap.size → ∀ w1, HasSet w1 g [] → Below W.heap.size W w1 → wpList Try.prog ops Q rest (a.put o.dst (.map (some g))) w1) : wpList Try.prog ops Q (o :: rest) a W :=
  Kd.event_run hgd hrun (h _ rfl _ (HasSet.made W) (below_alloc (Below.refl _ _) _))
theorem look_arm (hgd : o.guard = none) {m x : Operand} (hop : o.op = Op.lookup 79 m x false) {b : Nat} {s : List (Int × Int)} {p q : Int}
    (hm : a.eval m = .map (some b)) (hx : a.eval x = .agg #[.int .i64 p, .int .i64 q]) (hp : (Lit.int .i64 p).wf = true) (hq : (Lit.int .i64 q).wf = true)
    (HM : HasSet W b s) {t : Bool} (ht : decide ((p, q) ∈ s) = t) (h : wpList Try.prog ops Q rest (a.put o.dst (.bool t)) W) : wpList Try.prog ops Q (o :: rest) a W := by
  have hrun := HM.look p q hp hq
  rw [ht] at hrun
  refine wpList_plain hgd fun K' hK' => ?_
  unfold Oper.wp
  simp [execOp, hop, hm, hx, hrun, Result.andThen]
  exact hK' _ _ h
theorem gate_put {t : TypeId} {m x v : Operand} (_ho : o.op = Op.mapUpdate t m x v) (h : wpList Try.prog ops Q (o :: rest) a W) : wpList Try.prog ops Q (o :: rest) a W := h
theorem put_arm (hgd : o.guard = none) {m x v : Operand} (hop : o.op = Op.mapUpdate 79 m x v) {b : Nat} {s : List (Int × Int)} {p q : Int}
    (hm : a.eval m = .map (some b)) (hx : a.eval x = .agg #[.int .i64 p, .int .i64 q]) (hv : a.eval v = .bool true) (hp : (Lit.int .i64 p).wf = true) (hq : (Lit.int .i64 q).wf = true)
    (HM : HasSet W b s) (hs : s.length < maxLen) (h : ∀ w1, HasSet w1 b ((p, q) :: s) → W.grownBy w1 (some b) → wpList Try.prog ops Q rest (a.put o.dst undef) w1) : wpList Try.prog ops Q (o :: rest) a W := by
  obtain ⟨w1, hrun, h1, hg⟩ := HM.put hs p q hp hq
  refine wpList_plain hgd fun K' hK' => ?_
  unfold Oper.wp
  simp [execOp, hop, hm, hx, hv, hrun, Result.andThen]
  exact hK' _ _ (h w1 h1 hg)
end
end Go.Proofs.Ytmijfimjlenmpaa.GMap
