/- The statement FnDartsFinishSaid: for every input the law returns true, and each argument reads afterwards as it read before. No condition beside the row's own. -/
import Derived.Test.YtacmfgbeaoalfaaRows
import Derived.Test.YtacmfgbeaoalfaacGPJ
import Derived.WalkKit
import Derived.ProofKit
import Derived.OpenShut
import Derived.ShutString
import Derived.ChangeOld
import Derived.Below
import Derived.SizedLaws
import Derived.Lib.SmallJoins
import Derived.Deep.Slices
import Derived.Carry
namespace Go.Proofs.Ytacmfgbeaoalfaa.fnDartsFinish
open Go.ChangeShapes Go.WideShapes Go.ChangeAt Go.RowKit
open Go.ChangeMaps (open_string shut_string)
open Go.Proofs.Ytacmfgbeaoalfaa.QFnDartsFinish Go.Proofs.YtacmfgbeaoalfaaW.PrintWords
set_option linter.unusedVariables false
theorem own : ownKnob Try.prog.godebug = none := by kernel_rfl
theorem laidOut : laidOutB Try.prog = true := by kernel_rfl
theorem one_cellF5 : Try.prog.cellsOf 5 = 1 := by kernel_rfl
theorem open_flat22 {H : Type} {enc : TypeId × Value → H} {W : World} {m : Nat} {c2 : Value} {y2 : DataW H × List MemPlace} (h : DataW.trod enc Try.prog W 0 (fun _ => true) true m 22 [c2] = some y2) :
    ∃ (A : Option Addr) (cap : Nat) (l : List Int), c2 = .slice A l.length cap ∧ Kd.C (Kd.int .u8) W A l.length l ∧ l.length ≤ cap ∧ ∀ x ∈ l, (Lit.int .u8 x).wf = true := by
  rcases Deep.open_slice Try.underlying22 h with ⟨hcs, _⟩ | ⟨a, len, cap, m', n, D, Pl, hcs, _, hl, hm, hmm, _, hx⟩
  · injection hcs with hcs _
    subst hcs
    exact ⟨none, 0, [], rfl, Kd.C_nil _ _, Nat.le_refl _, fun x hx => by cases hx⟩
  · injection hcs with hcs _
    subst hcs
    simp only [if_true] at hmm
    have each : ∀ i, i < len → ∃ q : Int, W.cell? (a.add i) = some (.int .u8 q) ∧ (Lit.int .u8 q).wf = true := by
      intro i hi
      obtain ⟨cs', h1, h2⟩ := hx i (by omega)
      rw [one_cellF5, Nat.mul_one] at h1
      obtain ⟨_, hlen, hcell⟩ := World.cells?_some h1
      match cs', hlen with
      | [v0], _ =>
        obtain ⟨n0, e0, _, wz⟩ := DataW.trod_int Try.underlying5 h2
        simp at e0
        subst e0
        have k0 := hcell 0 (by omega)
        rw [add_add] at k0
        exact ⟨n0, by simpa using k0, wz⟩
    obtain ⟨V, hV⟩ := Deep.choose_lt each
    refine ⟨some a, cap, (List.range len).map V, by simp, ⟨rfl, by unfold maxLen at hm; simp; omega, fun _ => ⟨a, rfl, fun j p hj => ?_⟩⟩, by simpa using hl, ?_⟩
    · rw [List.getElem?_map] at hj
      obtain ⟨j', hj', rfl⟩ := Option.map_eq_some_iff.1 hj
      obtain ⟨hlt, rfl⟩ := List.getElem?_eq_some_iff.1 hj'
      simp only [List.length_range] at hlt
      simp only [List.getElem_range]
      obtain ⟨q0, _⟩ := hV j hlt
      refine ⟨[.int .u8 (V j)], rfl, rfl, fun i u hu => ?_⟩
      match i, hu with
      | 0, hu => simpa [show ((Kd.int .u8)).sz = 1 from rfl] using q0.trans hu
    · intro x hx
      obtain ⟨j, hj, rfl⟩ := List.mem_map.1 hx
      exact (hV j (List.mem_range.1 hj)).2
theorem walk (w : World) (A0 : Option Addr) (kc0 : Nat) (l0 : List Int) (A1 : Option Addr) (kc1 : Nat) (l1 : List Int) (hr0 : Kd.C (Kd.int .u8) w A0 l0.length l0) (hc0 : l0.length ≤ kc0) (hz0 : ∀ x ∈ l0, (Lit.int .u8 x).wf = true) (hr1 : Kd.C (Kd.int .u8) w A1 l1.length l1) (hc1 : l1.length ≤ kc1) (hz1 : ∀ x ∈ l1, (Lit.int .u8 x).wf = true) :
    Calls Try.prog 3 #[.slice A0 l0.length kc0, .slice A1 l1.length kc1] w fun e w' => e = .returned (.bool true) ∧ Below w.heap.size w w' := by
  exact Pure.law_true A0 kc0 l0 A1 kc1 l1 w hr0 hc0 hr1 hc1 hz0 hz1
set_option maxRecDepth 100000 in
theorem lifted (os : Os) (started : os.Started) (H : Type) (enc : TypeId × Value → H) :
    ReturnsInHanded {} Try.checked os 3 .any (Rows.fnDartsFinishSpec.pre6 enc Try.prog Try.f3 Rows.fnDartsFinishRow.domain false) (Rows.fnDartsFinishSpec.post enc Try.prog Try.f3 false true false false) := by
  refine returnsInHanded_of_change_sized (C := Try.checked) own started (by kernel_rfl) Try.func3
    (ChangeSpec.witness6 (enc := enc) (C := Try.checked) false ⟨#[], #[.slice none 0 0, .slice none 0 0], []⟩ 8 (by kernel_rfl) (by kernel_rfl) (by kernel_rfl) (by kernel_rfl)) ?_
  intro W base args ds gs before hval0 hW hcnd hsz0 _
  have hsz : (DataW.weightsEach Try.prog (Try.f3.params.toList ++ Rows.fnDartsFinishSpec.plain.varTypes Try.prog) (ds ++ gs)).all (· ≤ reachBytes) = true := hsz0
  have hval : ∀ (j : Nat) t v, Try.f3.params[j]? = some t → args[j]? = some v → Value.okWide Try.prog W .any base t v := hval0
  have hW' := hW
  obtain ⟨p, q, hA0, hV, rfl, hfz, hnd⟩ := hW
  have hA : DataW.TrodAll enc Try.prog W 0 (fun _ => true) true Try.f3.params.toList args.toList ds p := hA0
  rw [Try.params3] at hA hval hsz
  obtain ⟨v0, vs0, d0, ds0, p0, q0, hargs, rfl, rfl, h0, r0⟩ := trodAll_cons hA
  obtain ⟨v1, vs1, d1, ds1, p1, q1, rfl, rfl, rfl, h1, r1⟩ := trodAll_cons r0
  obtain ⟨rfl, rfl, rfl⟩ := trodAll_nil r1
  obtain rfl : args = #[v0, v1] := by cases args; simp_all
  obtain ⟨rfl, rfl⟩ := trodVars_none hV
  have k0 := h0
  have lt0 : ∀ x ∈ p0, x.block < W.heap.size := by obtain ⟨m, hm⟩ := k0; exact DataW.trod_lt m _ _ _ hm
  obtain ⟨A0', len0', cap0', rfl⟩ := okWide_slice Try.underlying22 (hval 0 22 v0 rfl rfl)
  obtain ⟨m0', hf0'⟩ := h0
  obtain ⟨A0, kc0, l0, e0', hr0, hc0, hz0⟩ := open_flat22 (show DataW.trod enc Try.prog W 0 (fun _ => true) true m0' 22 [.slice A0' len0' cap0'] = some _ from hf0')
  obtain ⟨rfl, rfl, rfl⟩ := Value.slice.inj e0'.symm
  have k1 := h1
  have lt1 : ∀ x ∈ p1, x.block < W.heap.size := by obtain ⟨m, hm⟩ := k1; exact DataW.trod_lt m _ _ _ hm
  obtain ⟨A1', len1', cap1', rfl⟩ := okWide_slice Try.underlying22 (hval 1 22 v1 rfl rfl)
  obtain ⟨m1', hf1'⟩ := h1
  obtain ⟨A1, kc1, l1, e1', hr1, hc1, hz1⟩ := open_flat22 (show DataW.trod enc Try.prog W 0 (fun _ => true) true m1' 22 [.slice A1' len1' cap1'] = some _ from hf1')
  obtain ⟨rfl, rfl, rfl⟩ := Value.slice.inj e1'.symm
  clear hA0 hval0 hsz0 hsz
  (try simp only [List.append_nil] at hW')
  refine (walk W A0 kc0 l0 A1 kc1 l1 hr0 hc0 hz0 hr1 hc1 hz1).mono fun e W' ⟨he, bel⟩ => ?_
  subst he
  exact ⟨_, rfl, _, _, _, [], _, [], hW', trodAll_mk1 (shut_bool Try.underlying4 _), (trodAll_cons_mk (Below.trod laidOut (by kernel_rfl) (of_decide_eq_true (by kernel_rfl)) k0 bel lt0) (trodAll_cons_mk (Below.trod laidOut (by kernel_rfl) (of_decide_eq_true (by kernel_rfl)) k1 bel lt1) trodAll_mk0)), rfl, bel.frame _, fun h => by cases h⟩
theorem over : Rows.fnDartsFinishRow.holds Try.pinned (OpenSpec.ofChange Rows.fnDartsFinishSpec) :=
  OpenClaim.holds_of_wide 3 Try.f3 rfl rfl rfl rfl rfl rfl rfl ⟨rfl, rfl, rfl, rfl, rfl⟩ rfl rfl rfl rfl rfl (by kernel_rfl) Try.func3 (by kernel_rfl)
    (of_decide_eq_true (by kernel_rfl)) (by unfold Func.isWrapper; first | (rw [if_pos (by decide +kernel)]; kernel_rfl) | (rw [if_neg (by decide +kernel)]; exact ⟨rfl, rfl⟩))
    (fun os started H enc _ => lifted os started H enc)
theorem proved : Rows.FnDartsFinishSaid := over
end Go.Proofs.Ytacmfgbeaoalfaa.fnDartsFinish
namespace Go.Proofs.Ytacmfgbeaoalfaa
theorem fnDartsFinish_holds : Rows.FnDartsFinishSaid := fnDartsFinish.proved
end Go.Proofs.Ytacmfgbeaoalfaa
