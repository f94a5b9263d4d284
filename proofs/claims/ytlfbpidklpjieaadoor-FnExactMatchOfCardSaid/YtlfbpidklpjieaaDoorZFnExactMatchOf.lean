/- The statement FnExactMatchOfSaid: for every input the law returns true, and each argument reads afterwards as it read before. No condition beside the row's own. -/
import Derived.Test.YtlfbpidklpjieaaDoorRows
import Derived.Test.YtlfbpidklpjieaaDoorCards
import Derived.Test.YtlfbpidklpjieaaDoorTie
import Derived.Test.YtlfbpidklpjieaaDoorQFnExactMatchOfx
import Derived.Test.YtlfbpidklpjieaaDoorYFnExactMatchOf
import Derived.WalkKit
import Derived.ProofKit
import Derived.OpenShut
import Derived.ShutString
import Derived.ChangeOld
import Derived.Below
import Derived.SizedLaws
import Derived.Lib.SmallJoins
import Derived.Deep.Slices
import Derived.Carry
import Derived.LaidMore
import Derived.Lay
import Derived.SevenTiedAt
import Derived.Stop.Joined
namespace Go.Proofs.YtlfbpidklpjieaaDoor.fnExactMatchOf
open Go.ChangeShapes Go.WideShapes Go.ChangeAt Go.RowKit
open Go.ChangeMaps (open_string shut_string)
open Go.Proofs.YtlfbpidklpjieaaDoor.QFnExactMatchOf Go.Proofs.YtlfbpidklpjieaaDoorW.PrintWords
set_option linter.unusedVariables false
theorem own : ownKnob Tryd.prog.godebug = none := by kernel_rfl
theorem cells31 : Tryd.prog.cellsOf 31 = 2 := by kernel_rfl
theorem laidOut : laidOutB Tryd.prog = true := by kernel_rfl
theorem one_cellF9 : Tryd.prog.cellsOf 9 = 1 := by kernel_rfl
/-- A slice of one-cell elements that came in, opened: it can be read. -/
theorem open_flat43 {H : Type} {enc : TypeId × Value → H} {W : World} {m : Nat} {c2 : Value} {y2 : DataW H × List MemPlace} (h : DataW.trod enc Tryd.prog W 0 (fun _ => true) true m 43 [c2] = some y2) :
    ∃ (A : Option Addr) (cap : Nat) (l : List ByteArray), c2 = .slice A l.length cap ∧ Kd.C Kd.string W A l.length l ∧ l.length ≤ cap ∧ ∀ x ∈ l, x.size ≤ 9223372036854775807 := by
  rcases Deep.open_slice Tryd.underlying43 h with ⟨hcs, _⟩ | ⟨a, len, cap, m', n, D, Pl, hcs, _, hl, hm, hmm, _, hx⟩
  · injection hcs with hcs _
    subst hcs
    exact ⟨none, 0, [], rfl, Kd.C_nil _ _, Nat.le_refl _, fun x hx => by cases hx⟩
  · injection hcs with hcs _
    subst hcs
    simp only [if_true] at hmm
    have each : ∀ i, i < len → ∃ q : ByteArray, W.cell? (a.add i) = some (.string q) ∧ q.size ≤ 9223372036854775807 := by
      intro i hi
      obtain ⟨cs', h1, h2⟩ := hx i (by omega)
      rw [one_cellF9, Nat.mul_one] at h1
      obtain ⟨_, hlen, hcell⟩ := World.cells?_some h1
      match cs', hlen with
      | [v0], _ =>
        obtain ⟨n0, e0, _, wz⟩ := DataW.trod_string Tryd.underlying9 h2
        simp at e0
        subst e0
        have k0 := hcell 0 (by omega)
        rw [add_add] at k0
        exact ⟨n0, by simpa using k0, wz⟩
    obtain ⟨V, hV⟩ := Deep.choose_lt each
    refine ⟨some a, cap, (List.range len).map V, by simp, ⟨rfl, by unfold maxLen at hm; simp; omega, fun _ => ⟨a, rfl, fun j p hj => ?_⟩⟩, by simpa using hl, ?_⟩
    · rw [List.getElem?_map] at hj
      obtain ⟨j', hj', rfl⟩ := Option.map_eq_some_iff.1 hj
      obtain ⟨hlt, rfl⟩ := List.getElem?_eq_some_iff.1 hj'
      simp only [List.length_range] at hlt
      simp only [List.getElem_range]
      obtain ⟨q0, _⟩ := hV j hlt
      refine ⟨[.string (V j)], rfl, rfl, fun i u hu => ?_⟩
      match i, hu with
      | 0, hu => simpa [show (Kd.string).sz = 1 from rfl] using q0.trans hu
    · intro x hx
      obtain ⟨j, hj, rfl⟩ := List.mem_map.1 hx
      exact (hV j (List.mem_range.1 hj)).2
theorem walk (w : World) (a0_0 : Int) (a0_1 : Int) (A1 : Option Addr) (kc1 : Nat) (l1 : List ByteArray) (a2 : Int) (w0_0 : (Lit.int .i64 a0_0).wf = true) (w0_1 : (Lit.int .i64 a0_1).wf = true) (hr1 : Kd.C Kd.string w A1 l1.length l1) (hc1 : l1.length ≤ kc1) (hz1 : ∀ x ∈ l1, x.size ≤ 9223372036854775807) (w2 : (Lit.int .i64 a2).wf = true) :
    Calls Tryd.prog 12 #[.agg #[.int .i64 a0_0, .int .i64 a0_1], .slice A1 l1.length kc1, .int .i64 a2] w fun e w' => e = .returned (.bool true) ∧ Below w.heap.size w w' := by
  obtain ⟨k, h⟩ := Pure.FnExactMatchOf a0_0 a0_1 l1 a2 w0_0 w0_1 hz1 (Nat.le_trans (Nat.le_of_eq rfl) hr1.2.1) w2
  refine (QFnExactMatchOf.laws_FnExactMatchOf.calls k a0_0 a0_1 A1 kc1 l1 a2 true w hr1 hc1 h).mono ?_
  rintro e w' ⟨rfl, hd⟩
  exact ⟨rfl, hd⟩
set_option maxRecDepth 100000 in
theorem lifted (os : Os) (started : os.Started) (H : Type) (enc : TypeId × Value → H) :
    ReturnsInHanded {} Tryd.checked os 12 .any (fun w args => (Rows.fnExactMatchOfSpec.pre enc Tryd.prog Tryd.f12 Rows.fnExactMatchOfRow.domain false w args ∧ laidMetH Tryd.prog Rows.fnExactMatchOfRow.laid w) ∧ sizedMet enc Tryd.prog Tryd.f12 (OpenSpec.ofChange Rows.fnExactMatchOfSpec) false w args) (Rows.fnExactMatchOfSpec.post enc Tryd.prog Tryd.f12 false true false false) := by
  refine returnsInHanded_of_change_and (C := Tryd.checked) (X := fun w _ => laidMetH Tryd.prog Rows.fnExactMatchOfRow.laid w) (fun _ _ _ hh h => h.of_heap hh) own started (by kernel_rfl) Tryd.func12
    (ChangeSpec.witness_shaped (enc := enc) (C := Tryd.checked) (os := os) (X := fun w _ => laidMetH Tryd.prog Rows.fnExactMatchOfRow.laid w) false (World.laidAll Tryd.prog os Rows.fnExactMatchOfRow.laid) #[.agg #[.int .i64 0, .int .i64 0], .slice none 0 0, .int .i64 0] 8 (World.laidAll_os _ _ _) (World.shaped_of_ZipB (by kernel_rfl) (by kernel_rfl)) (by kernel_rfl) (by kernel_rfl) (by kernel_rfl) (by rw [MakeChecks.laidMetH_plain _ _ _ (by kernel_rfl)]; exact laidMet_laidAll _ (by kernel_rfl) (by kernel_rfl))) ?_
  intro W base args ds gs before hval0 hW hcnd hsz0 hL _
  have hsz : (DataW.weightsEach Tryd.prog (Tryd.f12.params.toList ++ Rows.fnExactMatchOfSpec.plain.varTypes Tryd.prog) (ds ++ gs)).all (· ≤ reachBytes) = true := hsz0
  have hval : ∀ (j : Nat) t v, Tryd.f12.params[j]? = some t → args[j]? = some v → Value.okWide Tryd.prog W .any base t v := hval0
  have hW' := hW
  obtain ⟨p, q, hA0, hV, rfl, hfz, hnd⟩ := hW
  have hA : DataW.TrodAll enc Tryd.prog W 0 (fun _ => true) true Tryd.f12.params.toList args.toList ds p := hA0
  rw [Tryd.params12] at hA hval hsz
  obtain ⟨v0, vs0, d0, ds0, p0, q0, hargs, rfl, rfl, h0, r0⟩ := trodAll_cons hA
  obtain ⟨v1, vs1, d1, ds1, p1, q1, rfl, rfl, rfl, h1, r1⟩ := trodAll_cons r0
  obtain ⟨v2, vs2, d2, ds2, p2, q2, rfl, rfl, rfl, h2, r2⟩ := trodAll_cons r1
  obtain ⟨rfl, rfl, rfl⟩ := trodAll_nil r2
  obtain rfl : args = #[v0, v1, v2] := by cases args; simp_all
  obtain ⟨rfl, rfl⟩ := trodVars_none hV
  obtain ⟨c0_0, c0_1, y0_0, y0_1, m0, rfl, rfl, rfl, hy0_0, hy0_1⟩ := Joins.open_agg2 Tryd.underlying31 (by kernel_rfl) cells31 (hval 0 31 v0 rfl rfl) h0
  obtain ⟨a0_0, e0_0, rfl, w0_0⟩ := DataW.trod_int Tryd.underlying3 hy0_0
  simp at e0_0
  subst e0_0
  obtain ⟨a0_1, e0_1, rfl, w0_1⟩ := DataW.trod_int Tryd.underlying3 hy0_1
  simp at e0_1
  subst e0_1
  have sr0 : ∀ (W' : World) (sp : Nat → Bool), DataW.Trod enc Tryd.prog W' 0 sp true 31 (.agg #[.int .i64 a0_0, .int .i64 a0_1]) (.agg [.lit (.int .i64 a0_0), .lit (.int .i64 a0_1)]) [] := fun W' sp =>
    Joins.shut_agg2 (y0 := (.lit (.int .i64 a0_0), [])) (y1 := (.lit (.int .i64 a0_1), [])) Tryd.underlying31 (by kernel_rfl) cells31 ⟨1, by simp [DataW.trod, Tryd.underlying3, w0_0]⟩ ⟨1, by simp [DataW.trod, Tryd.underlying3, w0_1]⟩
  have k1 := h1
  have lt1 : ∀ x ∈ p1, x.block < W.heap.size := by obtain ⟨m, hm⟩ := k1; exact DataW.trod_lt m _ _ _ hm
  obtain ⟨A1', len1', cap1', rfl⟩ := okWide_slice Tryd.underlying43 (hval 1 43 v1 rfl rfl)
  obtain ⟨m1', hf1'⟩ := h1
  obtain ⟨A1, kc1, l1, e1', hr1, hc1, hz1⟩ := open_flat43 (show DataW.trod enc Tryd.prog W 0 (fun _ => true) true m1' 43 [.slice A1' len1' cap1'] = some _ from hf1')
  obtain ⟨rfl, rfl, rfl⟩ := Value.slice.inj e1'.symm
  obtain ⟨a2, rfl, rfl, rfl, w2⟩ := open_int Tryd.underlying3 (hval 2 3 v2 rfl rfl) h2
  clear hA0 hval0 hsz0 hsz
  (try simp only [List.append_nil] at hW')
  refine (walk W a0_0 a0_1 A1 kc1 l1 a2 w0_0 w0_1 hr1 hc1 hz1 w2).mono fun e W' ⟨he, bel⟩ => ?_
  subst he
  exact ⟨_, rfl, _, _, _, [], _, [], hW', trodAll_mk1 (shut_bool Tryd.underlying4 _), (trodAll_cons_mk (sr0 _ _) (trodAll_cons_mk (Below.trod laidOut (by kernel_rfl) (of_decide_eq_true (by kernel_rfl)) k1 bel lt1) (trodAll_cons_mk (shut_int Tryd.underlying3 w2) trodAll_mk0))), rfl, bel.frame _, fun h => by cases h⟩
theorem over : Rows.fnExactMatchOfRow.holds Tryd.pinned (OpenSpec.ofChange Rows.fnExactMatchOfSpec) :=
  OpenClaim.holds_of_wide 12 Tryd.f12 rfl rfl rfl rfl rfl rfl rfl ⟨rfl, rfl, rfl, rfl, rfl⟩ rfl rfl rfl rfl rfl (by kernel_rfl) Tryd.func12 (by kernel_rfl)
    (of_decide_eq_true (by kernel_rfl)) (by unfold Func.isWrapper; first | (rw [if_pos (by decide +kernel)]; kernel_rfl) | (rw [if_neg (by decide +kernel)]; exact ⟨rfl, rfl⟩))
    (fun os started H enc _ => lifted os started H enc)
theorem proved : Rows.FnExactMatchOfSaid := over
end Go.Proofs.YtlfbpidklpjieaaDoor.fnExactMatchOf
namespace Go.Proofs.YtlfbpidklpjieaaDoor
theorem fnExactMatchOf_holds : Rows.FnExactMatchOfCardSaid :=
  Claim7.holds_tied_plain_at .later [] [.data, .pinned] true (true, "d117a3056cd89f30a8f492dc0f5a994a69cd2975d0f45d0b88b2830477ab7ef7") false fnExactMatchOf.proved (fun _ h => by cases h) (by kernel_rfl) (fun _ h => by cases h) fnExactMatchOf_row_tie rfl ⟨rfl, rfl⟩ (by kernel_rfl) rfl
    (fun f fn hf hfn => by
      obtain rfl : f = 12 := Option.some.inj ((show Tryd.prog.funcNamed "loop.example/g01368/laws.FnExactMatchOf" = some 12 by kernel_rfl).symm.trans hf) |>.symm
      obtain rfl : fn = Tryd.f12 := (Option.some.inj (Tryd.func12.symm.trans hfn)).symm
      exact ⟨by kernel_rfl, fun j t ht => by
        rw [Tryd.params12] at ht
        have hm : t ∈ [31, 43, 3] := by
          simpa using Array.mem_of_getElem? ht
        have hall : ([31, 43, 3].all fun u => !Tryd.prog.wantsStandIn u) = true := by kernel_rfl
        exact (show Tryd.prog.wantsStandIn t = false by simpa using List.all_eq_true.1 hall t hm)⟩)
    (by kernel_rfl)
end Go.Proofs.YtlfbpidklpjieaaDoor
