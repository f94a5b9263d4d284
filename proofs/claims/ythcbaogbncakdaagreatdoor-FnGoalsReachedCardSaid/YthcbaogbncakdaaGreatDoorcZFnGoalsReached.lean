/- The statement FnGoalsReachedSaid: for every input the law returns true, and each argument reads afterwards as it read before. No condition beside the row's own. -/
import Derived.Test.YthcbaogbncakdaaGreatDoorRows
import Derived.Test.YthcbaogbncakdaaGreatDoorCards
import Derived.Test.YthcbaogbncakdaaGreatDoorTie
import Derived.Test.YthcbaogbncakdaaGreatDoorcQFnGoalsReachedx
import Derived.Test.YthcbaogbncakdaaGreatDoorcGKH
import Derived.WalkKit
import Derived.ProofKit
import Derived.OpenShut
import Derived.ShutString
import Derived.ChangeOld
import Derived.Below
import Derived.SizedLaws
import Derived.Lib.SmallJoins
import Derived.Deep.Slices
import Derived.Carry
import Derived.LaidMore
import Derived.Lib.LaidTab
import Derived.Stop.LaidErr
import Derived.Lay
import Derived.SevenTiedAt
import Derived.Stop.Joined
namespace Go.Proofs.YthcbaogbncakdaaGreatDoor.fnGoalsReached
open Go.Proofs.YthcbaogbncakdaaGreatDoor.QFnGoalsReached
open Go.ChangeShapes Go.WideShapes Go.ChangeAt Go.RowKit
open Go.ChangeMaps (open_string shut_string)
open Go.Proofs.YthcbaogbncakdaaGreatDoor.QFnGoalsReached Go.Proofs.YthcbaogbncakdaaGreatDoorW.PrintWords
set_option linter.unusedVariables false
theorem own : ownKnob Tryz.prog.godebug = none := by kernel_rfl
theorem laidOut : laidOutB Tryz.prog = true := by kernel_rfl
theorem one_cellF5 : Tryz.prog.cellsOf 5 = 1 := by kernel_rfl
theorem open_flat22 {H : Type} {enc : TypeId × Value → H} {W : World} {m : Nat} {c2 : Value} {y2 : DataW H × List MemPlace} (h : DataW.trod enc Tryz.prog W 0 (fun _ => true) true m 22 [c2] = some y2) :
    ∃ (A : Option Addr) (cap : Nat) (l : List Int), c2 = .slice A l.length cap ∧ Kd.C (Kd.int .u8) W A l.length l ∧ l.length ≤ cap ∧ ∀ x ∈ l, (Lit.int .u8 x).wf = true := by
  rcases Deep.open_slice Tryz.underlying22 h with ⟨hcs, _⟩ | ⟨a, len, cap, m', n, D, Pl, hcs, _, hl, hm, hmm, _, hx⟩
  · injection hcs with hcs _
    subst hcs
    exact ⟨none, 0, [], rfl, Kd.C_nil _ _, Nat.le_refl _, fun x hx => by cases hx⟩
  · injection hcs with hcs _
    subst hcs
    simp only [if_true] at hmm
    have each : ∀ i, i < len → ∃ q : Int, W.cell? (a.add i) = some (.int .u8 q) ∧ (Lit.int .u8 q).wf = true := by
      intro i hi
      obtain ⟨cs', h1, h2⟩ := hx i (by omega)
      rw [one_cellF5, Nat.mul_one] at h1
      obtain ⟨_, hlen, hcell⟩ := World.cells?_some h1
      match cs', hlen with
      | [v0], _ =>
        obtain ⟨n0, e0, _, wz⟩ := DataW.trod_int Tryz.underlying5 h2
        simp at e0
        subst e0
        have k0 := hcell 0 (by omega)
        rw [add_add] at k0
        exact ⟨n0, by simpa using k0, wz⟩
    obtain ⟨V, hV⟩ := Deep.choose_lt each
    refine ⟨some a, cap, (List.range len).map V, by simp, ⟨rfl, by unfold maxLen at hm; simp; omega, fun _ => ⟨a, rfl, fun j p hj => ?_⟩⟩, by simpa using hl, ?_⟩
    · rw [List.getElem?_map] at hj
      obtain ⟨j', hj', rfl⟩ := Option.map_eq_some_iff.1 hj
      obtain ⟨hlt, rfl⟩ := List.getElem?_eq_some_iff.1 hj'
      simp only [List.length_range] at hlt
      simp only [List.getElem_range]
      obtain ⟨q0, _⟩ := hV j hlt
      refine ⟨[.int .u8 (V j)], rfl, rfl, fun i u hu => ?_⟩
      match i, hu with
      | 0, hu => simpa [show ((Kd.int .u8)).sz = 1 from rfl] using q0.trans hu
    · intro x hx
      obtain ⟨j, hj, rfl⟩ := List.mem_map.1 hx
      exact (hV j (List.mem_range.1 hj)).2
theorem row_ptr (u : TypeId) (h : Tryz.prog.typeName? 3 u = some "*errors.errorString") : u = 119 :=
  typeName_ptr_named (nm := "errors.errorString") (by rw [show "*" ++ "errors.errorString" = "*errors.errorString" by decide]; kernel_rfl) (by kernel_rfl) (by decide) u (by rw [show "*" ++ "errors.errorString" = "*errors.errorString" by decide]; exact h)
theorem ld_of (W : World) (hL : laidMetH Tryz.prog Rows.fnGoalsReachedRow.laid W) (hs : W.ShapedOpen Tryz.prog) : LD W := by
  have h : laidMet Tryz.prog [("math/bits.deBruijn32tab", Rows.laid_math_bits_deBruijn32tab), ("math/bits.deBruijn64tab", Rows.laid_math_bits_deBruijn64tab), ("internal/strconv.uint64pow10", Rows.laid_internal_strconv_uint64pow10), ("unicode/utf8.acceptRanges", Rows.laid_unicode_utf8_acceptRanges), ("strconv.ErrRange", Rows.laid_strconv_ErrRange), ("strconv.ErrSyntax", Rows.laid_strconv_ErrSyntax), ("unicode/utf8.first", Rows.laid_unicode_utf8_first)] W := by
    rw [MakeChecks.laidMetH_plain _ _ _ (by kernel_rfl)] at hL
    exact hL
  obtain ⟨a0, s0, hv0, -, -, -⟩ := laid_sentinel h.tail.tail.tail.tail.tail (g := 1) (by kernel_rfl) (ti := 68) (by kernel_rfl) Tryz.underlying68 row_ptr Tryz.underlying119 Tryz.underlying121 rfl rfl Tryz.underlying9 (by kernel_rfl) (by kernel_rfl)
  obtain ⟨a1, s1, hv1, -, -, -⟩ := laid_sentinel h.tail.tail.tail.tail (g := 2) (by kernel_rfl) (ti := 68) (by kernel_rfl) Tryz.underlying68 row_ptr Tryz.underlying119 Tryz.underlying121 rfl rfl Tryz.underlying9 (by kernel_rfl) (by kernel_rfl)
  refine ⟨hs, Lib.tabIs_of_head (g := 3) (t := 107) (e := 50) (n := 20) (by kernel_rfl) (by kernel_rfl) Tryz.underlying107 Tryz.underlying50 (by kernel_rfl) (by kernel_rfl) h.tail.tail, ⟨_, _, hv0⟩, ⟨_, _, hv1⟩⟩
theorem walk (w : World) (A0 : Option Addr) (kc0 : Nat) (l0 : List Int) (A1 : Option Addr) (kc1 : Nat) (l1 : List Int) (hr0 : Kd.C (Kd.int .u8) w A0 l0.length l0) (hc0 : l0.length ≤ kc0) (hz0 : ∀ x ∈ l0, (Lit.int .u8 x).wf = true) (hr1 : Kd.C (Kd.int .u8) w A1 l1.length l1) (hc1 : l1.length ≤ kc1) (hz1 : ∀ x ∈ l1, (Lit.int .u8 x).wf = true) (LDW : LD w) :
    Calls Tryz.prog 3 #[.slice A0 l0.length kc0, .slice A1 l1.length kc1] w fun e w' => e = .returned (.bool true) ∧ Below w.heap.size w w' := by
  exact Pure.law_true A0 kc0 l0 A1 kc1 l1 w hr0 hc0 hr1 hc1 hz0 hz1 LDW
set_option maxRecDepth 100000 in
theorem lifted (os : Os) (started : os.Started) (H : Type) (enc : TypeId × Value → H) :
    ReturnsInHanded {} Tryz.checked os 3 .any (fun w args => (Rows.fnGoalsReachedSpec.pre enc Tryz.prog Tryz.f3 Rows.fnGoalsReachedRow.domain false w args ∧ laidMetH Tryz.prog Rows.fnGoalsReachedRow.laid w) ∧ sizedMet enc Tryz.prog Tryz.f3 (OpenSpec.ofChange Rows.fnGoalsReachedSpec) false w args) (Rows.fnGoalsReachedSpec.post enc Tryz.prog Tryz.f3 false true false false) := by
  refine returnsInHanded_of_calls own started (by kernel_rfl)
    (ChangeSpec.witness_shaped (enc := enc) (C := Tryz.checked) (os := os) (X := fun w _ => laidMetH Tryz.prog Rows.fnGoalsReachedRow.laid w) false (World.laidAll Tryz.prog os Rows.fnGoalsReachedRow.laid) #[.slice none 0 0, .slice none 0 0] 8 (World.laidAll_os _ _ _) (World.shaped_of_ZipB (by kernel_rfl) (by kernel_rfl)) (by kernel_rfl) (by kernel_rfl) (by kernel_rfl) (by rw [MakeChecks.laidMetH_plain _ _ _ (by kernel_rfl)]; exact laidMet_laidAll _ (by kernel_rfl) (by kernel_rfl))) ?_
  intro w tape i _ hsh _ hok hpre _
  obtain ⟨_, _, _, fn', hfn', _, _, _, _, hval0⟩ := hok
  obtain rfl : fn' = Tryz.f3 := Option.some.inj (hfn'.symm.trans Tryz.func3)
  obtain ⟨⟨⟨ds, gs, before, hw, hcnd⟩, hL⟩, hz⟩ := hpre
  have hW := DataW.Whole.of_heap (w' := w.forCall tape i) (by rfl) hw
  have hsz0 := hz.weights hw
  have LDW := ld_of _ (laidMetH.of_heap (w' := w.forCall tape i) (by rfl) hL) hsh
  refine Calls.mono (?_ : Calls Tryz.prog 3 i.args (w.forCall tape i) fun e W' => ∃ v, e = .returned v ∧ Rows.fnGoalsReachedSpec.post enc Tryz.prog Tryz.f3 false true false false (w.forCall tape i) i.args v W') (fun e W' ⟨v, he, hp⟩ => by subst he; exact ChangeSpec.post_blind hp)
  generalize w.heap.size = base at hval0
  generalize w.forCall tape i = W at hval0 hW hsz0 LDW ⊢
  generalize i.args = args at hval0 hW hsz0 ⊢
  have hsz : (DataW.weightsEach Tryz.prog (Tryz.f3.params.toList ++ Rows.fnGoalsReachedSpec.plain.varTypes Tryz.prog) (ds ++ gs)).all (· ≤ reachBytes) = true := hsz0
  have hval : ∀ (j : Nat) t v, Tryz.f3.params[j]? = some t → args[j]? = some v → Value.okWide Tryz.prog W .any base t v := hval0
  have hW' := hW
  obtain ⟨p, q, hA0, hV, rfl, hfz, hnd⟩ := hW
  have hA : DataW.TrodAll enc Tryz.prog W 0 (fun _ => true) true Tryz.f3.params.toList args.toList ds p := hA0
  rw [Tryz.params3] at hA hval hsz
  obtain ⟨v0, vs0, d0, ds0, p0, q0, hargs, rfl, rfl, h0, r0⟩ := trodAll_cons hA
  obtain ⟨v1, vs1, d1, ds1, p1, q1, rfl, rfl, rfl, h1, r1⟩ := trodAll_cons r0
  obtain ⟨rfl, rfl, rfl⟩ := trodAll_nil r1
  obtain rfl : args = #[v0, v1] := by cases args; simp_all
  obtain ⟨rfl, rfl⟩ := trodVars_none hV
  have k0 := h0
  have lt0 : ∀ x ∈ p0, x.block < W.heap.size := by obtain ⟨m, hm⟩ := k0; exact DataW.trod_lt m _ _ _ hm
  obtain ⟨A0', len0', cap0', rfl⟩ := okWide_slice Tryz.underlying22 (hval 0 22 v0 rfl rfl)
  obtain ⟨m0', hf0'⟩ := h0
  obtain ⟨A0, kc0, l0, e0', hr0, hc0, hz0⟩ := open_flat22 (show DataW.trod enc Tryz.prog W 0 (fun _ => true) true m0' 22 [.slice A0' len0' cap0'] = some _ from hf0')
  obtain ⟨rfl, rfl, rfl⟩ := Value.slice.inj e0'.symm
  have k1 := h1
  have lt1 : ∀ x ∈ p1, x.block < W.heap.size := by obtain ⟨m, hm⟩ := k1; exact DataW.trod_lt m _ _ _ hm
  obtain ⟨A1', len1', cap1', rfl⟩ := okWide_slice Tryz.underlying22 (hval 1 22 v1 rfl rfl)
  obtain ⟨m1', hf1'⟩ := h1
  obtain ⟨A1, kc1, l1, e1', hr1, hc1, hz1⟩ := open_flat22 (show DataW.trod enc Tryz.prog W 0 (fun _ => true) true m1' 22 [.slice A1' len1' cap1'] = some _ from hf1')
  obtain ⟨rfl, rfl, rfl⟩ := Value.slice.inj e1'.symm
  clear hA0 hval0 hsz0 hsz
  (try simp only [List.append_nil] at hW')
  refine (walk W A0 kc0 l0 A1 kc1 l1 hr0 hc0 hz0 hr1 hc1 hz1 LDW).mono fun e W' ⟨he, bel⟩ => ?_
  subst he
  exact ⟨_, rfl, _, _, _, [], _, [], hW', trodAll_mk1 (shut_bool Tryz.underlying4 _), (trodAll_cons_mk (Below.trod laidOut (by kernel_rfl) (of_decide_eq_true (by kernel_rfl)) k0 bel lt0) (trodAll_cons_mk (Below.trod laidOut (by kernel_rfl) (of_decide_eq_true (by kernel_rfl)) k1 bel lt1) trodAll_mk0)), rfl, bel.frame _, fun h => by cases h⟩
theorem over : Rows.fnGoalsReachedRow.holds Tryz.pinned (OpenSpec.ofChange Rows.fnGoalsReachedSpec) :=
  OpenClaim.holds_of_wide 3 Tryz.f3 rfl rfl rfl rfl rfl rfl rfl ⟨rfl, rfl, rfl, rfl, rfl⟩ rfl rfl rfl rfl rfl (by kernel_rfl) Tryz.func3 (by kernel_rfl)
    (of_decide_eq_true (by kernel_rfl)) (by unfold Func.isWrapper; first | (rw [if_pos (by decide +kernel)]; kernel_rfl) | (rw [if_neg (by decide +kernel)]; exact ⟨rfl, rfl⟩))
    (fun os started H enc _ => lifted os started H enc)
theorem proved : Rows.FnGoalsReachedSaid := over
end Go.Proofs.YthcbaogbncakdaaGreatDoor.fnGoalsReached
namespace Go.Proofs.YthcbaogbncakdaaGreatDoor
theorem fnGoalsReached_holds : Rows.FnGoalsReachedCardSaid :=
  Claim7.holds_tied_plain_at .later [] [.data, .data, .data, .data, .sentinel, .sentinel, .pinned] true (true, "76ed30a740b00e0e4d9e03392a12c543a0a0920241c6548463bf1701d4956bf5") true fnGoalsReached.proved (fun _ h => by cases h) (by kernel_rfl) (fun _ h => by cases h) fnGoalsReached_row_tie rfl ⟨rfl, rfl⟩ (by kernel_rfl) rfl
    (fun f fn hf hfn => by
      obtain rfl : f = 3 := Option.some.inj ((show Tryz.prog.funcNamed "loop.example/g01368/laws.FnGoalsReached" = some 3 by kernel_rfl).symm.trans hf) |>.symm
      obtain rfl : fn = Tryz.f3 := (Option.some.inj (Tryz.func3.symm.trans hfn)).symm
      exact ⟨by kernel_rfl, fun j t ht => by
        rw [Tryz.params3] at ht
        have hm : t ∈ [22, 22] := by
          simpa using Array.mem_of_getElem? ht
        have hall : ([22, 22].all fun u => !Tryz.prog.wantsStandIn u) = true := by kernel_rfl
        exact (show Tryz.prog.wantsStandIn t = false by simpa using List.all_eq_true.1 hall t hm)⟩)
    (by kernel_rfl)
end Go.Proofs.YthcbaogbncakdaaGreatDoor
