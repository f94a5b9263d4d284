/- Maps from texts to whole numbers that a call of its own makes and counts with: what the block is good for, as one word, and its laws at the operations. No condition beside those that each law names. -/
import Derived.Test.YtiknaldhjbdnbaaGreatDoorProg
import Derived.Maps.OwnOps
import Derived.Maps.OwnSet
import Derived.Maps.Views
import Derived.DeepKeys4
import Derived.StringKeys
import Derived.WalkKit
import Derived.KernelRfl
import Derived.Below
import Derived.Test.YtiknaldhjbdnbaaGreatDoorV1
namespace Go.Proofs.YtiknaldhjbdnbaaGreatDoor.GCnt
open Go.RowKit Go.ChangeMaps Go.Maps Go.MapKept Go.WideMaps Go.WideElems Go.Proofs.YtiknaldhjbdnbaaGreatDoorW.PrintWords
set_option linter.unusedVariables false
set_option linter.unusedSimpArgs false
theorem law : WideMaps.KeyLaw Tryz.prog 9 := string_law Tryz.underlying9
theorem keyed : Keyed Tryz.prog 9 := Keyed.of_law law
structure HasCnt (w : World) (b : Nat) (s : List (List UInt8)) : Prop where
  mk :: (out : ∃ n D, w.ownsMap (H := Unit) Tryz.prog 9 (plainElem Tryz.prog 3) b n D ∧ n ≤ s.length ∧
    ∀ (x : ByteArray) kl, keyOf Tryz.prog 9 (.string x) = some kl → D.atKey kl (.lit (.int .i64 0)) = .lit (.int .i64 (s.count x.data.toList)))
theorem HasCnt.made (w : World) : HasCnt (w.alloc (.map #[] 0)) w.heap.size [] :=
  ⟨0, _, World.ownsMap_made w _ _ _, Nat.le_refl _, fun x kl _ => by simp [DataW.atKey]⟩
section
variable {w w' : World} {b : Nat} {s : List (List UInt8)}
theorem HasCnt.lt (h : HasCnt w b s) : b < w.heap.size := by
  obtain ⟨n, D, ho, _⟩ := h.out
  exact ho.lt
set_option maxRecDepth 100000 in
theorem int_inv {v : Value} {c : Int} {ps : List MemPlace} (h : plainElem (H := Unit) Tryz.prog 3 v = some (.lit (.int .i64 c), ps)) : v = .int .i64 c := by
  unfold plainElem at h
  rw [Tryz.underlying3] at h
  cases v <;> simp at h
  obtain ⟨⟨rfl, _⟩, ⟨rfl, rfl⟩, _⟩ := h
  rfl
theorem HasCnt.look (h : HasCnt w b s) (x : ByteArray) (hx : x.size ≤ maxLen) :
    (Instr.lookup 85 (.map (some b)) (.string x) false).run Tryz.prog w = .ok (.int .i64 (s.count x.data.toList)) w := by
  obtain ⟨n, D, ho, _, hat⟩ := h.out
  have hk := keyOf_string_mk (s := x) Tryz.underlying9 hx
  obtain ⟨v, ps, hrun, hv⟩ := ho.lookup keyed Tryz.underlying85 (z := .int .i64 0) (by kernel_rfl) (plainElem_int Tryz.underlying3 (by decide)) hk
  rw [hat x _ hk] at hv
  rw [hrun, int_inv hv]
theorem HasCnt.kept (h : HasCnt w b s) {rw_ : Option Nat} (hg : w.grownBy w' rw_) (hne : some b ≠ rw_) : HasCnt w' b s := by
  obtain ⟨n, D, ho, r⟩ := h.out
  exact ⟨n, D, ho.kept hg hne, r⟩
theorem wf_mid (z : Int) (h0 : 0 ≤ z) (h : z ≤ 1000000) : (Lit.int .i64 (z + 1)).wf = true := by
  simp [Lit.wf, IntKind.min, IntKind.max, IntKind.signed, IntKind.bits]
  omega
theorem wf_cnt (n : Nat) (h : n ≤ 1000000) : (Lit.int .i64 ((n : Int) + 1)).wf = true := wf_mid n (by omega) (by omega)
theorem HasCnt.put (h : HasCnt w b s) (hs : s.length ≤ 1000000) (x : ByteArray) (hx : x.size ≤ maxLen) :
    ∃ w', (Instr.mapUpdate 85 (.map (some b)) (.string x) (.int .i64 ((s.count x.data.toList : Int) + 1))).run Tryz.prog w = .ok () w' ∧ HasCnt w' b (s ++ [x.data.toList]) ∧ w.grownBy w' (some b) := by
  obtain ⟨n, D, ho, hn, hat⟩ := h.out
  have hk := keyOf_string_mk (s := x) Tryz.underlying9 hx
  have hc : s.count x.data.toList ≤ s.length := List.count_le_length
  have hwf : (Lit.int .i64 ((s.count x.data.toList : Int) + 1)).wf = true := wf_cnt _ (Nat.le_trans hc hs)
  obtain ⟨w', hrun, ho', hg⟩ := ho.update keyed Tryz.underlying85 (Nat.lt_of_le_of_lt (Nat.le_trans hn hs) (by decide)) hk (plainElem_int Tryz.underlying3 hwf)
  refine ⟨w', hrun, ⟨n + 1, _, ho', by simp; omega, fun x' kl' hk' => ?_⟩, hg⟩
  by_cases e : kl' = .string x.data.toList
  · subst e
    have hv : x = x' := Value.string.inj (keyed.inj hk hk')
    subst hv
    rw [atKey_put_same (World.ownsMap.isMap ho) (keyed.key hk)]
    simp [List.count_append]
  · rw [atKey_put_other e, hat x' kl' hk']
    have hne : x'.data.toList ≠ x.data.toList := by
      intro e2
      have e3 : x' = x := ByteArray.ext (Array.ext' e2)
      rw [e3, hk] at hk'
      exact e (Option.some.inj hk').symm
    have : ([x.data.toList] : List (List UInt8)).count x'.data.toList = 0 := by
      rw [List.count_eq_zero]
      simpa using hne
    rw [List.count_append, this]
    simp
end
section
variable {ops : Array Oper} {rest : List Oper} {o : Oper} {a : Act} {Q : Exit → Act → World → Prop} {W : World}
theorem make_arm (hgd : o.guard = none) (hop : o.op = Op.makeMap 85 none) (h : HasCnt (W.alloc (.map #[] 0)) W.heap.size [] → wpList Tryz.prog ops Q rest (a.put o.dst (.map (some W.heap.size))) (W.alloc (.map #[] 0))) : wpList Tryz.prog ops Q (o :: rest) a W := by
  have hrun := @run_makeMap Tryz.prog
  refine wpList_plain hgd fun K' hK' => ?_
  unfold Oper.wp
  simp [execOp, hop, hrun, Result.andThen]
  exact hK' _ _ (h (HasCnt.made W))
theorem look_arm (hgd : o.guard = none) {m x : Operand} (hop : o.op = Op.lookup 85 m x false) {b : Nat} {s : List (List UInt8)} {p : ByteArray}
    (hm : a.eval m = .map (some b)) (hx : a.eval x = .string p) (hp : p.size ≤ maxLen)
    (HM : HasCnt W b s) (h : wpList Tryz.prog ops Q rest (a.put o.dst (.int .i64 (s.count p.data.toList))) W) : wpList Tryz.prog ops Q (o :: rest) a W := by
  have hrun := HM.look p hp
  refine wpList_plain hgd fun K' hK' => ?_
  unfold Oper.wp
  simp [execOp, hop, hm, hx, hrun, Result.andThen]
  exact hK' _ _ h
theorem put_arm (hgd : o.guard = none) {m x v : Operand} (hop : o.op = Op.mapUpdate 85 m x v) {b : Nat} {s : List (List UInt8)} {p : ByteArray}
    (hm : a.eval m = .map (some b)) (hx : a.eval x = .string p) (hv : a.eval v = .int .i64 ((s.count p.data.toList : Int) + 1)) (hp : p.size ≤ maxLen)
    (HM : HasCnt W b s) (hs : s.length ≤ 1000000) (h : ∀ w1, HasCnt w1 b (s ++ [p.data.toList]) → W.grownBy w1 (some b) → wpList Tryz.prog ops Q rest (a.put o.dst undef) w1) : wpList Tryz.prog ops Q (o :: rest) a W := by
  obtain ⟨w1, hrun, h1, hg⟩ := HM.put hs p hp
  refine wpList_plain hgd fun K' hK' => ?_
  unfold Oper.wp
  simp [execOp, hop, hm, hx, hv, hrun, Result.andThen]
  exact hK' _ _ (h w1 h1 hg)
end
end Go.Proofs.YtiknaldhjbdnbaaGreatDoor.GCnt
