/- impl.number and strings.Cut over the shelf's contracts; what they ask of memory (three variables of the library as they were laid, the globals' shape) is LD, and LD holds on in every world that grows out of one. -/
import Derived.Test.YthcbaogbncakdaaGreatDoorcPar
import Derived.Test.YthcbaogbncakdaaGreatDoorcQFnGoalsReachedx0
import Derived.Lib.AtoiAllCases
import Derived.Lib.AppendIntMem
import Derived.Lib.SplitLaws
namespace Go.Proofs.YthcbaogbncakdaaGreatDoor.QFnGoalsReached
open Go.RowKit Go.Proofs.YthcbaogbncakdaaGreatDoorW.PrintWords Go.Proofs.YthcbaogbncakdaaGreatDoorW.PrintLast Go.Proofs.YthcbaogbncakdaaGreatDoorW.PrintMore
set_option linter.unusedVariables false
set_option linter.unusedSimpArgs false
structure LD (w : World) : Prop where
  shaped : w.ShapedOpen Tryz.prog
  tab : Lib.TabIs Tryz.prog w "internal/strconv.uint64pow10" .u64 Lib.pow10Tab
  syn : ∃ tp p, w.var? Tryz.prog "strconv.ErrSyntax" = some #[.iface tp p]
  rng : ∃ tp p, w.var? Tryz.prog "strconv.ErrRange" = some #[.iface tp p]
theorem var_up {P : Program} {n : String} {cs : Array Value} {w w1 : World} (h : w.var? P n = some cs) (hb : Below w.heap.size w w1) : w1.var? P n = some cs := by
  unfold World.var? at h ⊢
  obtain ⟨g, hg, h⟩ := Option.bind_eq_some_iff.1 h
  rw [hg, Option.bind_some]
  have hlt : g < w.heap.size := by
    rcases Nat.lt_or_ge g w.heap.size with q | q
    · exact q
    · simp [Array.getElem?_eq_none q] at h
  rw [hb.block g hlt]
  exact h
theorem LD.below {w w1 : World} (h : LD w) (hb : Below w.heap.size w w1) : LD w1 := by
  obtain ⟨h1, h2, ⟨t1, p1, h3⟩, ⟨t2, p2, h4⟩⟩ := h
  exact ⟨h1.keptBut (hb.frame (fun _ => False)) (fun _ q => q.elim), var_up h2 hb, ⟨t1, p1, var_up h3 hb⟩, ⟨t2, p2, var_up h4 hb⟩⟩
def number.v (s : ByteArray) (most : Int) : Int × Bool :=
  match Lib.atoiAll s.data.toList with
  | .ok v => if Lib.itoa v = s.data.toList ∧ 0 ≤ v ∧ v ≤ most then (v, true) else (0, false)
  | _ => (0, false)
def impl_number.f (a0 : ByteArray) (a1 : Int) : Option (Int × Bool) := if a0.size ≤ 1048576 then some (number.v a0 a1) else none
theorem tol_eq (s : ByteArray) : s.toList = s.data.toList := ByteArray.toList_eq s
set_option maxHeartbeats 8000000 in
set_option maxRecDepth 100000 in
theorem impl_number.calls (a0 : ByteArray) (a1 : Int) (r1 : Int) (r2 : Bool) (w : World) (h : impl_number.f a0 a1 = some (r1, r2)) (LDw : LD w := by exact LD.below LDW.out (by repeat (first | (with_reducible first | exact HB.out | apply below_alloc | apply pw_below_drewN | apply below_drew1) | exact HB.out | exact Below.refl _ _ | refine below_set ?_ (Aside0.out (by assumption))))) :
    Calls Tryz.prog 50 #[.string a0, .int .i64 a1] w fun e w' => e = .returned (.tuple #[.int .i64 r1, .bool r2]) ∧ Below w.heap.size w w' := by
  unfold impl_number.f at h
  by_cases hs : a0.size ≤ 1048576
  · replace h := (if_pos hs).symm.trans h
    have h1 := Option.some.inj h
    clear h
    have LDW := Aside0.mk LDw
    clear LDw
    have HS := Aside0.mk hs
    clear hs
    unfold number.v at h1
    cases hA : Lib.atoiAll a0.data.toList with
    | «syntax» =>
      rw [hA] at h1
      obtain ⟨rfl, rfl⟩ := Prod.mk.inj h1
      obtain ⟨tp, p, hv⟩ := LDW.out.syn
      have HA := Aside0.mk hA
      have HV := Aside0.mk hv
      clear h1 hA hv
      go_enter Tryz.func50, Tryz.ntmps50
      go_wp2_with (go_at_call 64; (with_reducible refine (Tryz.strconv_Atoi_syntax_var a0 (by have := HS.out; omega) HA.out tp p _ HV.out).mono ?_); rintro e w2 ⟨N, rfl, _, _, hb⟩; have HB := Aside0.mk hb; clear hb)
      go_ret2
      exact ⟨rfl, HB.out⟩
    | range =>
      rw [hA] at h1
      obtain ⟨rfl, rfl⟩ := Prod.mk.inj h1
      obtain ⟨tp, p, hv⟩ := LDW.out.rng
      have HA := Aside0.mk hA
      have HV := Aside0.mk hv
      clear h1 hA hv
      go_enter Tryz.func50, Tryz.ntmps50
      go_wp2_with (go_at_call 64; (with_reducible refine (Tryz.strconv_Atoi_range_var a0 (by have := HS.out; omega) HA.out tp p _ HV.out).mono ?_); rintro e w2 ⟨N, rfl, _, _, hb⟩; have HB := Aside0.mk hb; clear hb)
      go_ret2
      exact ⟨rfl, HB.out⟩
    | ok v =>
      rw [hA] at h1
      have HA := Aside0.mk hA
      have hbd := Lib.atoiAll_bounds hA
      have HBD := Aside0.mk hbd
      clear hA hbd
      obtain ⟨sI, hsI⟩ : ∃ s : ByteArray, (⟨(Lib.itoa v).toArray⟩ : ByteArray) = s := ⟨_, rfl⟩
      have HSI := Aside0.mk hsI
      have hiff : sI.toList = a0.toList ↔ Lib.itoa v = a0.data.toList := by
        rw [← hsI, tol_eq, tol_eq]
      clear hsI
      by_cases c1 : Lib.itoa v = a0.data.toList
      · have d1 := hiff.2 c1
        by_cases c2 : 0 ≤ v
        · by_cases c3 : v ≤ a1
          · have d3 : decide (v ≤ a1) = true := decide_eq_true c3
            replace h1 := (if_pos ⟨c1, c2, c3⟩).symm.trans h1
            obtain ⟨rfl, rfl⟩ := Prod.mk.inj h1
            clear c1 hiff h1
            go_enter Tryz.func50, Tryz.ntmps50
            go_wp2_with (first
              | (go_at_call 64; (with_reducible refine (Tryz.strconv_Atoi_ok a0 (by have := HS.out; omega) v HA.out _).mono ?_); rintro e w2 ⟨rfl, hw2⟩; have HB := Aside0.mk (show Below w.heap.size w w2 by (rcases hw2 with rfl | ⟨t, rfl⟩; exact Below.refl _ _; exact Lib.bytesWorld_below _ _ _)); clear hw2)
              | (go_at_call 59; (with_reducible refine (Tryz.strconv_Itoa v HBD.out.1 HBD.out.2 _ (LD.below LDW.out HB.out).tab).mono ?_); rw [HSI.out]; rintro e w3 ⟨rfl, kk, os, rfl⟩; have HB2 := Aside0.mk (below_step HB.out (Lib.below_grow w2.heap.size w2 (Nat.le_refl _) kk os)))
              | (go_at_call 53; go_in))
            all_goals (go_ret2; exact ⟨rfl, HB2.out⟩)
          · have d3 : decide (v ≤ a1) = false := decide_eq_false c3
            replace h1 := (if_neg (fun q => c3 q.2.2)).symm.trans h1
            obtain ⟨rfl, rfl⟩ := Prod.mk.inj h1
            clear c1 hiff h1
            go_enter Tryz.func50, Tryz.ntmps50
            go_wp2_with (first
              | (go_at_call 64; (with_reducible refine (Tryz.strconv_Atoi_ok a0 (by have := HS.out; omega) v HA.out _).mono ?_); rintro e w2 ⟨rfl, hw2⟩; have HB := Aside0.mk (show Below w.heap.size w w2 by (rcases hw2 with rfl | ⟨t, rfl⟩; exact Below.refl _ _; exact Lib.bytesWorld_below _ _ _)); clear hw2)
              | (go_at_call 59; (with_reducible refine (Tryz.strconv_Itoa v HBD.out.1 HBD.out.2 _ (LD.below LDW.out HB.out).tab).mono ?_); rw [HSI.out]; rintro e w3 ⟨rfl, kk, os, rfl⟩; have HB2 := Aside0.mk (below_step HB.out (Lib.below_grow w2.heap.size w2 (Nat.le_refl _) kk os)))
              | (go_at_call 53; go_in))
            all_goals (go_ret2; exact ⟨rfl, HB2.out⟩)
        · replace h1 := (if_neg (fun q => c2 q.2.1)).symm.trans h1
          obtain ⟨rfl, rfl⟩ := Prod.mk.inj h1
          clear c1 hiff h1
          go_enter Tryz.func50, Tryz.ntmps50
          go_wp2_with (first
            | (go_at_call 64; (with_reducible refine (Tryz.strconv_Atoi_ok a0 (by have := HS.out; omega) v HA.out _).mono ?_); rintro e w2 ⟨rfl, hw2⟩; have HB := Aside0.mk (show Below w.heap.size w w2 by (rcases hw2 with rfl | ⟨t, rfl⟩; exact Below.refl _ _; exact Lib.bytesWorld_below _ _ _)); clear hw2)
            | (go_at_call 59; (with_reducible refine (Tryz.strconv_Itoa v HBD.out.1 HBD.out.2 _ (LD.below LDW.out HB.out).tab).mono ?_); rw [HSI.out]; rintro e w3 ⟨rfl, kk, os, rfl⟩; have HB2 := Aside0.mk (below_step HB.out (Lib.below_grow w2.heap.size w2 (Nat.le_refl _) kk os)))
            | (go_at_call 53; go_in))
          all_goals (go_ret2; exact ⟨rfl, HB2.out⟩)
      · have d1 : ¬ sI.toList = a0.toList := fun q => c1 (hiff.1 q)
        replace h1 := (if_neg (fun q => c1 q.1)).symm.trans h1
        obtain ⟨rfl, rfl⟩ := Prod.mk.inj h1
        clear c1 hiff h1
        go_enter Tryz.func50, Tryz.ntmps50
        go_wp2_with (first
          | (go_at_call 64; (with_reducible refine (Tryz.strconv_Atoi_ok a0 (by have := HS.out; omega) v HA.out _).mono ?_); rintro e w2 ⟨rfl, hw2⟩; have HB := Aside0.mk (show Below w.heap.size w w2 by (rcases hw2 with rfl | ⟨t, rfl⟩; exact Below.refl _ _; exact Lib.bytesWorld_below _ _ _)); clear hw2)
          | (go_at_call 59; (with_reducible refine (Tryz.strconv_Itoa v HBD.out.1 HBD.out.2 _ (LD.below LDW.out HB.out).tab).mono ?_); rw [HSI.out]; rintro e w3 ⟨rfl, kk, os, rfl⟩; have HB2 := Aside0.mk (below_step HB.out (Lib.below_grow w2.heap.size w2 (Nat.le_refl _) kk os)))
          | (go_at_call 53; go_in))
        all_goals (go_ret2; exact ⟨rfl, HB2.out⟩)
  · exact absurd ((if_neg hs).symm.trans h) (by simp)
def strings_Split.f (a0 a1 : ByteArray) : Option (List ByteArray) := if a0.size ≤ 1048576 ∧ 1 ≤ a1.size then some (Lib.splitB a1 0 (Lib.countB a0 a1) a0) else none
theorem count_le (sub : List UInt8) : ∀ (n : Nat) (s : List UInt8), Lib.countFrom sub n s ≤ n := by
  intro n
  induction n with
  | zero => intro s; exact Nat.le_refl _
  | succ n ih =>
    intro s
    unfold Lib.countFrom
    split
    · omega
    · have := ih (s.drop ((Lib.index s sub).toNat + sub.length)); omega
theorem strings_Split.calls (a0 a1 : ByteArray) (r : List ByteArray) (w : World) (h : strings_Split.f a0 a1 = some r) (LDw : LD w := by exact LD.below LDW.out (by repeat (first | (with_reducible first | exact HB.out | apply below_alloc | apply pw_below_drewN | apply below_drew1) | exact HB.out | exact Below.refl _ _ | refine below_set ?_ (Aside0.out (by assumption))))) :
    Calls Tryz.prog 49 #[.string a0, .string a1] w fun e w' => ∃ v0_ : Value, e = .returned (v0_) ∧ Kd.R Kd.string 9 w' w.heap.size (fun _ => True) v0_ r ∧ Below w.heap.size w w' := by
  unfold strings_Split.f at h
  by_cases hs : a0.size ≤ 1048576 ∧ 1 ≤ a1.size
  · replace h := Option.some.inj ((if_pos hs).symm.trans h)
    have hn := Lib.splitB_all a1 hs.2 0 _ a0 rfl
    have hc : Lib.countB a0 a1 ≤ 1048577 := by
      unfold Lib.countB Lib.count
      have h1 := count_le a1.data.toList (a0.data.toList.length + 1) a0.data.toList
      have h2 : a0.data.toList.length = a0.size := Array.length_toList
      omega
    rw [h] at hn
    refine (Tryz.strings_Split_shaped a0 a1 w LDw.shaped (by omega) hs.2).mono ?_
    rintro e w' ⟨rfl, rfl⟩
    rw [h]
    refine ⟨_, rfl, Kd.R_of_own ⟨by simp [encs], Or.inr ⟨w.heap.size, _, (r.map Value.string).toArray, by rw [hn], Nat.le_refl _, blk_new _ _, by rw [hn]; exact Nat.le_refl _, by unfold maxLen; omega, by simp [hn], ?_⟩⟩ (fun _ _ => trivial), below_alloc (Below.refl _ _) _⟩
    simp [encs]
    exact List.take_of_length_le (by simp)
  · exact absurd ((if_neg hs).symm.trans h) (by simp)
end Go.Proofs.YthcbaogbncakdaaGreatDoor.QFnGoalsReached
