/- The statement FnExactKindsTextSaid: for every input the law returns true, and each argument reads afterwards as it read before. No condition beside the row's own. -/
import Derived.Test.YtmijfimjlenmpaaDoorRows
import Derived.Test.YtmijfimjlenmpaaDoorCards
import Derived.Test.YtmijfimjlenmpaaDoorTie
import Derived.Test.YtmijfimjlenmpaaDoorQFnExactKindsTextx
import Derived.Test.YtmijfimjlenmpaaDoorYFnExactKindsText
import Derived.WalkKit
import Derived.ProofKit
import Derived.OpenShut
import Derived.ShutString
import Derived.ChangeOld
import Derived.Below
import Derived.SizedLaws
import Derived.Lib.SmallJoins
import Derived.Deep.Slices
import Derived.Carry
import Derived.LaidMore
import Derived.Lay
import Derived.SevenTiedAt
import Derived.Stop.Joined
namespace Go.Proofs.YtmijfimjlenmpaaDoor.fnExactKindsText
open Go.ChangeShapes Go.WideShapes Go.ChangeAt Go.RowKit
open Go.ChangeMaps (open_string shut_string)
open Go.Proofs.YtmijfimjlenmpaaDoor.QFnExactKindsText Go.Proofs.YtmijfimjlenmpaaDoorW.PrintWords
set_option linter.unusedVariables false
theorem own : ownKnob Tryd.prog.godebug = none := by kernel_rfl
theorem laidOut : laidOutB Tryd.prog = true := by kernel_rfl
theorem one_cellF3 : Tryd.prog.cellsOf 3 = 1 := by kernel_rfl
/-- A slice of one-cell elements that came in, opened: it can be read. -/
theorem open_flat34 {H : Type} {enc : TypeId × Value → H} {W : World} {m : Nat} {c2 : Value} {y2 : DataW H × List MemPlace} (h : DataW.trod enc Tryd.prog W 0 (fun _ => true) true m 34 [c2] = some y2) :
    ∃ (A : Option Addr) (cap : Nat) (l : List Int), c2 = .slice A l.length cap ∧ Kd.C (Kd.int .i64) W A l.length l ∧ l.length ≤ cap ∧ ∀ x ∈ l, (Lit.int .i64 x).wf = true := by
  rcases Deep.open_slice Tryd.underlying34 h with ⟨hcs, _⟩ | ⟨a, len, cap, m', n, D, Pl, hcs, _, hl, hm, hmm, _, hx⟩
  · injection hcs with hcs _
    subst hcs
    exact ⟨none, 0, [], rfl, Kd.C_nil _ _, Nat.le_refl _, fun x hx => by cases hx⟩
  · injection hcs with hcs _
    subst hcs
    simp only [if_true] at hmm
    have each : ∀ i, i < len → ∃ q : Int, W.cell? (a.add i) = some (.int .i64 q) ∧ (Lit.int .i64 q).wf = true := by
      intro i hi
      obtain ⟨cs', h1, h2⟩ := hx i (by omega)
      rw [one_cellF3, Nat.mul_one] at h1
      obtain ⟨_, hlen, hcell⟩ := World.cells?_some h1
      match cs', hlen with
      | [v0], _ =>
        obtain ⟨n0, e0, _, wz⟩ := DataW.trod_int Tryd.underlying3 h2
        simp at e0
        subst e0
        have k0 := hcell 0 (by omega)
        rw [add_add] at k0
        exact ⟨n0, by simpa using k0, wz⟩
    obtain ⟨V, hV⟩ := Deep.choose_lt each
    refine ⟨some a, cap, (List.range len).map V, by simp, ⟨rfl, by unfold maxLen at hm; simp; omega, fun _ => ⟨a, rfl, fun j p hj => ?_⟩⟩, by simpa using hl, ?_⟩
    · rw [List.getElem?_map] at hj
      obtain ⟨j', hj', rfl⟩ := Option.map_eq_some_iff.1 hj
      obtain ⟨hlt, rfl⟩ := List.getElem?_eq_some_iff.1 hj'
      simp only [List.length_range] at hlt
      simp only [List.getElem_range]
      obtain ⟨q0, _⟩ := hV j hlt
      refine ⟨[.int .i64 (V j)], rfl, rfl, fun i u hu => ?_⟩
      match i, hu with
      | 0, hu => simpa [show ((Kd.int .i64)).sz = 1 from rfl] using q0.trans hu
    · intro x hx
      obtain ⟨j, hj, rfl⟩ := List.mem_map.1 hx
      exact (hV j (List.mem_range.1 hj)).2
theorem walk (w : World) (A0 : Option Addr) (kc0 : Nat) (l0 : List Int) (hr0 : Kd.C (Kd.int .i64) w A0 l0.length l0) (hc0 : l0.length ≤ kc0) (hz0 : ∀ x ∈ l0, (Lit.int .i64 x).wf = true) :
    Calls Tryd.prog 4 #[.slice A0 l0.length kc0] w fun e w' => e = .returned (.bool true) ∧ Below w.heap.size w w' := by
  obtain ⟨k, h⟩ := Pure.FnExactKindsText l0 hz0 (Nat.le_trans (Nat.le_of_eq rfl) hr0.2.1)
  refine (QFnExactKindsText.laws_FnExactKindsText.calls k A0 kc0 l0 true w hr0 hc0 h).mono ?_
  rintro e w' ⟨rfl, hd⟩
  exact ⟨rfl, hd⟩
set_option maxRecDepth 100000 in
theorem lifted (os : Os) (started : os.Started) (H : Type) (enc : TypeId × Value → H) :
    ReturnsInHanded {} Tryd.checked os 4 .any (fun w args => (Rows.fnExactKindsTextSpec.pre enc Tryd.prog Tryd.f4 Rows.fnExactKindsTextRow.domain false w args ∧ laidMetH Tryd.prog Rows.fnExactKindsTextRow.laid w) ∧ sizedMet enc Tryd.prog Tryd.f4 (OpenSpec.ofChange Rows.fnExactKindsTextSpec) false w args) (Rows.fnExactKindsTextSpec.post enc Tryd.prog Tryd.f4 false true false false) := by
  refine returnsInHanded_of_change_and (C := Tryd.checked) (X := fun w _ => laidMetH Tryd.prog Rows.fnExactKindsTextRow.laid w) (fun _ _ _ hh h => h.of_heap hh) own started (by kernel_rfl) Tryd.func4
    (ChangeSpec.witness_shaped (enc := enc) (C := Tryd.checked) (os := os) (X := fun w _ => laidMetH Tryd.prog Rows.fnExactKindsTextRow.laid w) false (World.laidAll Tryd.prog os Rows.fnExactKindsTextRow.laid) #[.slice none 0 0] 8 (World.laidAll_os _ _ _) (World.shaped_of_ZipB (by kernel_rfl) (by kernel_rfl)) (by kernel_rfl) (by kernel_rfl) (by kernel_rfl) (by rw [MakeChecks.laidMetH_plain _ _ _ (by kernel_rfl)]; exact laidMet_laidAll _ (by kernel_rfl) (by kernel_rfl))) ?_
  intro W base args ds gs before hval0 hW hcnd hsz0 hL _
  have hsz : (DataW.weightsEach Tryd.prog (Tryd.f4.params.toList ++ Rows.fnExactKindsTextSpec.plain.varTypes Tryd.prog) (ds ++ gs)).all (· ≤ reachBytes) = true := hsz0
  have hval : ∀ (j : Nat) t v, Tryd.f4.params[j]? = some t → args[j]? = some v → Value.okWide Tryd.prog W .any base t v := hval0
  have hW' := hW
  obtain ⟨p, q, hA0, hV, rfl, hfz, hnd⟩ := hW
  have hA : DataW.TrodAll enc Tryd.prog W 0 (fun _ => true) true Tryd.f4.params.toList args.toList ds p := hA0
  rw [Tryd.params4] at hA hval hsz
  obtain ⟨v0, vs0, d0, ds0, p0, q0, hargs, rfl, rfl, h0, r0⟩ := trodAll_cons hA
  obtain ⟨rfl, rfl, rfl⟩ := trodAll_nil r0
  obtain rfl : args = #[v0] := by cases args; simp_all
  obtain ⟨rfl, rfl⟩ := trodVars_none hV
  have k0 := h0
  have lt0 : ∀ x ∈ p0, x.block < W.heap.size := by obtain ⟨m, hm⟩ := k0; exact DataW.trod_lt m _ _ _ hm
  obtain ⟨A0', len0', cap0', rfl⟩ := okWide_slice Tryd.underlying34 (hval 0 34 v0 rfl rfl)
  obtain ⟨m0', hf0'⟩ := h0
  obtain ⟨A0, kc0, l0, e0', hr0, hc0, hz0⟩ := open_flat34 (show DataW.trod enc Tryd.prog W 0 (fun _ => true) true m0' 34 [.slice A0' len0' cap0'] = some _ from hf0')
  obtain ⟨rfl, rfl, rfl⟩ := Value.slice.inj e0'.symm
  clear hA0 hval0 hsz0 hsz
  (try simp only [List.append_nil] at hW')
  refine (walk W A0 kc0 l0 hr0 hc0 hz0).mono fun e W' ⟨he, bel⟩ => ?_
  subst he
  exact ⟨_, rfl, _, _, _, [], _, [], hW', trodAll_mk1 (shut_bool Tryd.underlying4 _), (trodAll_cons_mk (Below.trod laidOut (by kernel_rfl) (of_decide_eq_true (by kernel_rfl)) k0 bel lt0) trodAll_mk0), rfl, bel.frame _, fun h => by cases h⟩
theorem over : Rows.fnExactKindsTextRow.holds Tryd.pinned (OpenSpec.ofChange Rows.fnExactKindsTextSpec) :=
  OpenClaim.holds_of_wide 4 Tryd.f4 rfl rfl rfl rfl rfl rfl rfl ⟨rfl, rfl, rfl, rfl, rfl⟩ rfl rfl rfl rfl rfl (by kernel_rfl) Tryd.func4 (by kernel_rfl)
    (of_decide_eq_true (by kernel_rfl)) (by unfold Func.isWrapper; first | (rw [if_pos (by decide +kernel)]; kernel_rfl) | (rw [if_neg (by decide +kernel)]; exact ⟨rfl, rfl⟩))
    (fun os started H enc _ => lifted os started H enc)
theorem proved : Rows.FnExactKindsTextSaid := over
end Go.Proofs.YtmijfimjlenmpaaDoor.fnExactKindsText
namespace Go.Proofs.YtmijfimjlenmpaaDoor
theorem fnExactKindsText_holds : Rows.FnExactKindsTextCardSaid :=
  Claim7.holds_tied_plain_at .later [] [.data, .data, .data] true (true, "38994171ee53dbd2b06e4deb69a107bb62c36515af9133c6ca415d57c043c127") false fnExactKindsText.proved (fun _ h => by cases h) (by kernel_rfl) (fun _ h => by cases h) fnExactKindsText_row_tie rfl ⟨rfl, rfl⟩ (by kernel_rfl) rfl
    (fun f fn hf hfn => by
      obtain rfl : f = 4 := Option.some.inj ((show Tryd.prog.funcNamed "loop.example/g01368/laws.FnExactKindsText" = some 4 by kernel_rfl).symm.trans hf) |>.symm
      obtain rfl : fn = Tryd.f4 := (Option.some.inj (Tryd.func4.symm.trans hfn)).symm
      exact ⟨by kernel_rfl, fun j t ht => by
        rw [Tryd.params4] at ht
        have hm : t ∈ [34] := by
          simpa using Array.mem_of_getElem? ht
        have hall : ([34].all fun u => !Tryd.prog.wantsStandIn u) = true := by kernel_rfl
        exact (show Tryd.prog.wantsStandIn t = false by simpa using List.all_eq_true.1 hall t hm)⟩)
    (by kernel_rfl)
end Go.Proofs.YtmijfimjlenmpaaDoor
