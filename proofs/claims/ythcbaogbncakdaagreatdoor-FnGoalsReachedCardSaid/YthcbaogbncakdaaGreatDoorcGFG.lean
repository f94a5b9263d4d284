/- impl.FirstGoals, walked over its closure's contract: it gives the row that the closure has written. -/
import Derived.Test.YthcbaogbncakdaaGreatDoorcGFind
import Derived.Laws.EntriesVeiled
namespace Go.Proofs.YthcbaogbncakdaaGreatDoor.QFnGoalsReached
open Go.RowKit Go.Proofs.YthcbaogbncakdaaGreatDoorW.PrintWords Go.Proofs.YthcbaogbncakdaaGreatDoorW.PrintLast Go.Proofs.YthcbaogbncakdaaGreatDoorW.PrintMore
set_option linter.unusedVariables false
set_option linter.unusedSimpArgs false
def okFG (ks : List Int) (s m : Int) : Bool := ks.all (fun x => decide (1 ≤ x) && decide (x ≤ 1000000)) && (decide (0 < ks.length) && (decide (ks.length ≤ 1000000) && (decide (0 ≤ s ∧ s ≤ 1000000) && decide (0 ≤ m ∧ m ≤ 1000000))))
def impl_FirstGoals.f (k : Nat) (l0 : List Int) (a1 : Int) : Option (List Int × Bool) := (impl_FewestGoals.f k l0 a1).bind fun q => if q.2 = true then (if okFG l0 a1 q.1 = true then some ((fd l0 l0.length (List.replicate l0.length 0) a1 q.1).2, true) else none) else some ([], false)
theorem holds_of_R {w : World} {base : Nat} {ok : Nat → Prop} {v : Value} {pts : List Int} (h : Kd.R (Kd.int .i64) 3 w base ok v pts) (hp : 0 < pts.length) : ∃ pb cap cur, v = .slice (some ⟨pb, 0, none⟩) pts.length cap ∧ base ≤ pb ∧ w.heap[pb]? = some (.cells cur 3 (0, 0)) ∧ Holds cap cur pts ∧ pts.length ≤ cap ∧ cap ≤ maxLen := by
  obtain ⟨hl, ho⟩ := Kd.own_of_R h
  rcases ho with ⟨rfl, h0⟩ | ⟨g, cap, cur, rfl, hg, hh, h1, h2, h3, h4⟩
  · omega
  · refine ⟨g, cap, cur, rfl, hg, hh, ⟨by rw [h3]; omega, fun i i0 i1 => ?_⟩, h1, h2⟩
    have h5 := congrArg (fun l => l[i.toNat]?) h4
    simp only [encs_get (d := (0 : Int)) pts i.toNat (by omega)] at h5
    rw [List.getElem?_take_of_lt (by omega), Array.getElem?_toList] at h5
    exact h5
theorem R_of_holds {w : World} {base pb cap : Nat} {cur : Array Value} {pts : List Int} (hb : base ≤ pb) (hc : w.heap[pb]? = some (.cells cur 3 (0, 0))) (hh : Holds cap cur pts) (hl : pts.length ≤ cap) (hm : cap ≤ maxLen) : Kd.R (Kd.int .i64) 3 w base (fun _ => True) (.slice (some ⟨pb, 0, none⟩) pts.length cap) pts := by
  refine Kd.R_of_own ⟨by rw [encs_length]; omega, .inr ⟨pb, cap, cur, rfl, hb, hc, hl, hm, by rw [hh.1]; omega, ?_⟩⟩ (fun _ _ => trivial)
  apply List.ext_getElem?
  intro j
  rcases Nat.lt_or_ge j pts.length with hj | hj
  · rw [encs_get (d := (0 : Int)) pts j hj, List.getElem?_take_of_lt (by omega), Array.getElem?_toList]
    have := hh.2 (j : Int) (by omega) (by omega)
    rw [Int.toNat_natCast] at this
    rw [this]
    unfold rd
    rw [Int.toNat_natCast]
  · rw [List.getElem?_eq_none (l := List.take _ _) (by rw [List.length_take]; omega), List.getElem?_eq_none (by rw [encs_length]; omega)]
set_option maxHeartbeats 8000000 in
set_option maxRecDepth 100000 in
theorem impl_FirstGoals.calls (k : Nat) (A0 : Option Addr) (c0 : Nat) (l0 : List Int) (a1 : Int) (r1 : List Int) (r2 : Bool) (w : World) (hr0 : Kd.C (Kd.int .i64) w A0 l0.length l0) (hc0 : l0.length ≤ c0) (h : impl_FirstGoals.f k l0 a1 = some (r1, r2)) :
    Calls Tryz.prog 6 #[.slice A0 l0.length c0, .int .i64 a1] w fun e w' => ∃ v0_ : Value, e = .returned (.tuple #[v0_, .bool r2]) ∧ Kd.R (Kd.int .i64) 3 w' w.heap.size (fun _ => True) v0_ r1 ∧ Below w.heap.size w w' := by
  have HR0 := Aside0.mk hr0
  have HC0 := Aside0.mk hc0
  clear hr0 hc0
  unfold impl_FirstGoals.f at h
  obtain ⟨⟨m, b⟩, hq, H⟩ := Option.bind_eq_some_iff.1 h
  clear h
  have A3 := Aside0.mk hq
  clear hq
  cases b with
  | false =>
    replace H := (if_neg (by simp)).symm.trans H
    obtain ⟨rfl, rfl⟩ := Prod.mk.inj (Option.some.inj H)
    clear H
    go_enter Tryz.func6, Tryz.ntmps6
    go_wp2_with (go_at_call 8; (with_reducible refine (impl_FewestGoals.calls k A0 c0 l0 a1 m false _ ?sa ?sb A3.out).mono ?_); (case sa => exact Kd.C_alloc HR0.out _); (case sb => exact HC0.out); rintro e w2 ⟨rfl, hb2⟩; have HB2 := Aside0.mk (below_step (below_alloc (Below.refl _ _) _) hb2); clear hb2)
    go_ret2
    exact ⟨.slice none 0 0, rfl, Kd.R_nil _ _ _ _ _, HB2.out⟩
  | true =>
    replace H := (if_pos rfl).symm.trans H
    by_cases hok : okFG l0 a1 m = true
    · replace H := (if_pos hok).symm.trans H
      obtain ⟨rfl, rfl⟩ := Prod.mk.inj (Option.some.inj H)
      clear H
      unfold okFG at hok
      simp only [Bool.and_eq_true, decide_eq_true_eq] at hok
      obtain ⟨o1, o2, o3, o4, o5⟩ := hok
      have HN := Aside0.mk (And.intro o2 o3)
      have HS := Aside0.mk (And.intro o4 o5)
      have HKS := Aside0.mk (show ∀ j : Nat, j < l0.length → 1 ≤ rd l0 j ∧ rd l0 j ≤ 1000000 from fun j hj => by
        have hr : rd l0 j = l0[j] := by unfold rd; simp [List.getD_eq_getElem?_getD, List.getElem?_eq_getElem hj]
        have := List.all_eq_true.1 o1 _ (List.getElem_mem hj)
        simp only [Bool.and_eq_true, decide_eq_true_eq] at this
        rw [hr]
        exact this)
      clear o1 o2 o3 o4 o5
      go_enter Tryz.func6, Tryz.ntmps6
      go_upto_region 4 with (go_at_call 8; (with_reducible refine (impl_FewestGoals.calls k A0 c0 l0 a1 m true _ ?sa ?sb A3.out).mono ?_); (case sa => exact Kd.C_alloc HR0.out _); (case sb => exact HC0.out); rintro e w2 ⟨rfl, hb2⟩; have HB2 := Aside0.mk (below_step (below_alloc (Below.refl _ _) _) hb2); have BL2 := Aside0.mk (blk_below (blk_new w (.cells #[.slice A0 l0.length c0] 24)) hb2); have q0 : w2.cell? ⟨w.heap.size, 0, none⟩ = some (.slice A0 l0.length c0) := (blk_cell BL2.out 0).trans rfl; clear hb2)
      have hln : ((l0.length : Int)).toNat * 8 ≤ 281474976710656 := by have := HN.out; omega
      have hl0 : (0 : Int) ≤ (l0.length : Int) := by omega
      go_upto_region 5 with ((with_reducible refine gate_dst (N := 20) rfl ?_); refine Kd.R_make (Kd.int .i64) _ 3 rfl (N := 20) rfl 24 _ _ rfl (l0.length : Int) rfl rfl Tryz.underlying24 (.int .i64 0) 8 info3 rfl (by decide) (by omega) 0 (ok := fun _ => True) (okp := fun _ => True) rfl (fun _ hk => hk) trivial hl0 hln (Below.refl _ _) (Nat.le_refl _) ?_; intro v5 w5 ho5 hb5 hg_ hnew_; clear hg_ hnew_; rw [Int.toNat_natCast] at ho5; obtain ⟨pb, cp, cur, eR, hpb, hcur, hHo, hcp, hcm⟩ := holds_of_R ho5 (by rw [List.length_replicate]; exact HN.out.1); rw [List.length_replicate] at eR hcp; subst eR; have HPB := Aside0.mk hpb; have HCUR := Aside0.mk hcur; have HHo := Aside0.mk hHo; have HCP := Aside0.mk (And.intro hcp hcm); have HB5 := Aside0.mk hb5; clear ho5 hb5 hpb hcur hHo hcp hcm)
      go_upto_region 6 with fail
      have N0 : ((w5.alloc (.cells #[.slice (some ⟨pb, 0, none⟩) l0.length cp] 24)).alloc (.cells #[.nilFunc] 42)).heap[w5.heap.size + 1]? = some (.cells #[.nilFunc] 42 (0, 0)) := by
        have := blk_new (w5.alloc (.cells #[.slice (some ⟨pb, 0, none⟩) l0.length cp] 24)) (.cells #[.nilFunc] 42)
        simpa using this
      have No : ((w5.alloc (.cells #[.slice (some ⟨pb, 0, none⟩) l0.length cp] 24)).alloc (.cells #[.nilFunc] 42)).heap[w5.heap.size]? = some (.cells #[.slice (some ⟨pb, 0, none⟩) l0.length cp] 24 (0, 0)) := blk_alloc (blk_new w5 _) _
      have Nk : ((w5.alloc (.cells #[.slice (some ⟨pb, 0, none⟩) l0.length cp] 24)).alloc (.cells #[.nilFunc] 42)).heap[w.heap.size]? = _ := blk_alloc (blk_alloc (blk_below BL2.out HB5.out) _) _
      have Nc : ((w5.alloc (.cells #[.slice (some ⟨pb, 0, none⟩) l0.length cp] 24)).alloc (.cells #[.nilFunc] 42)).heap[pb]? = _ := blk_alloc (blk_alloc HCUR.out _) _
      have Hp5 : w5.heap.size + 1 ≠ pb := by have := blk_lt HCUR.out; omega
      have Hq5 : w5.heap.size ≠ pb := by have := blk_lt HCUR.out; omega
      have hbk : w.heap.size < w2.heap.size := blk_lt BL2.out
      have hz25 : w2.heap.size ≤ w5.heap.size := below_size HB5.out
      have HBw : Below w.heap.size w ((w5.alloc (.cells #[.slice (some ⟨pb, 0, none⟩) l0.length cp] 24)).alloc (.cells #[.nilFunc] 42)) := below_alloc (below_alloc (below_step HB2.out HB5.out) _) _
      have hB5' : Below w2.heap.size w2 ((w5.alloc (.cells #[.slice (some ⟨pb, 0, none⟩) l0.length cp] 24)).alloc (.cells #[.nilFunc] 42)) := below_alloc (below_alloc HB5.out _) _
      have hpb2 := HPB.out
      obtain ⟨bo, hbo⟩ : ∃ b, b = w5.heap.size := ⟨_, rfl⟩
      rw [← hbo] at N0 No Hp5 Hq5 hz25 ⊢
      obtain ⟨bk, hbk_⟩ : ∃ b, b = w.heap.size := ⟨_, rfl⟩
      rw [← hbk_] at Nk hbk ⊢
      generalize ((w5.alloc (.cells #[.slice (some ⟨pb, 0, none⟩) l0.length cp] 24)).alloc (.cells #[.nilFunc] 42)) = w6 at N0 No Nk Nc HBw hB5' ⊢
      have N1 := blk_set N0 0 (.func (.func 34) #[] #[.pointer (some ⟨bk, 0, none⟩), .pointer (some ⟨bo, 0, none⟩), .pointer (some ⟨bo + 1, 0, none⟩)])
      have EE : Env bk bo (bo + 1) pb A0 l0.length c0 l0.length cp (w6.setCell ⟨bo + 1, 0, none⟩ (.func (.func 34) #[] #[.pointer (some ⟨bk, 0, none⟩), .pointer (some ⟨bo, 0, none⟩), .pointer (some ⟨bo + 1, 0, none⟩)])) :=
        ⟨blk_far Nk (by show bk ≠ bo + 1; omega) _, blk_far No (by show bo ≠ bo + 1; omega) _, N1, by omega, Hq5, Hp5⟩
      have PP := blk_far (p := ⟨bo + 1, 0, none⟩) Nc (fun e => Hp5 e.symm) (.func (.func 34) #[] #[.pointer (some ⟨bk, 0, none⟩), .pointer (some ⟨bo, 0, none⟩), .pointer (some ⟨bo + 1, 0, none⟩)])
      have hBL := Below.setCell (p := ⟨bo + 1, 0, none⟩) hB5' (by show w2.heap.size ≤ bo + 1; omega) (.func (.func 34) #[] #[.pointer (some ⟨bk, 0, none⟩), .pointer (some ⟨bo, 0, none⟩), .pointer (some ⟨bo + 1, 0, none⟩)])
      have hcall := find.calls l0 HKS.out HN.out.2 bk bo (bo + 1) pb A0 c0 cp w2 (Kd.C_below HR0.out HB2.out) hpb2 l0.length (Nat.le_refl _) a1 m HS.out.1 HS.out.2 (List.replicate l0.length 0) List.length_replicate cur _ hBL EE PP HHo.out
      have HCALL := Aside0.mk hcall
      have f1 := (blk_cell N0 0).trans (show (#[Value.nilFunc] : Array Value)[0]? = some .nilFunc from rfl)
      have f2 := blk_frozen N0 0
      have f3 := (blk_cell N1 0).trans (show _ = some (Value.func (.func 34) #[] #[.pointer (some ⟨bk, 0, none⟩), .pointer (some ⟨bo, 0, none⟩), .pointer (some ⟨bo + 1, 0, none⟩)]) from rfl)
      have f4 := (blk_cell EE.ek 0).trans (show _ = some (.slice A0 l0.length c0) from rfl)
      have w1 : wrap64 ((l0.length : Int) - 1) = (l0.length : Int) - 1 := by have := HN.out; unfold wrap64; omega
      have v1 : IntKind.i64.wrap ((l0.length : Int) - 1) = (l0.length : Int) - 1 := by rw [i64_w]; exact w1
      have HEE := Aside0.mk EE
      have HBx := Aside0.mk (Below.setCell (p := ⟨bo + 1, 0, none⟩) HBw (by show w.heap.size ≤ bo + 1; omega) (.func (.func 34) #[] #[.pointer (some ⟨bk, 0, none⟩), .pointer (some ⟨bo, 0, none⟩), .pointer (some ⟨bo + 1, 0, none⟩)]))
      have HPP := Aside0.mk (show w.heap.size ≤ pb by omega)
      clear hcall hBL hB5' HBw PP EE hz25 hbk hpb2 Hq5 Hp5 N0 N1 No Nk Nc hbo hbk_ q0 hln hl0
      go_wp2_with (go_at_call 34; (with_reducible refine (HCALL.out).mono ?_); rintro e w7 ⟨rfl, hbp, cur7, hc7, hh7⟩; have HBP := Aside0.mk hbp; have HC7 := Aside0.mk hc7; have HH7 := Aside0.mk hh7; have q7 : w7.cell? ⟨bo, 0, none⟩ = some (.slice (some ⟨pb, 0, none⟩) l0.length cp) := (blk_cell (HEE.out.bp hbp).eo 0).trans rfl; clear hbp hc7 hh7 f1 f2 f3 f4)
      go_ret2
      have hlen : (fd l0 l0.length (List.replicate l0.length 0) a1 m).2.length = l0.length := by rw [fd_len, List.length_replicate]
      have hR := R_of_holds HPP.out HC7.out HH7.out (by rw [hlen]; exact HCP.out.1) HCP.out.2
      rw [hlen] at hR
      exact ⟨_, rfl, hR, Bp.under HBx.out HBP.out HPP.out⟩
    · exact absurd ((if_neg hok).symm.trans H) (by simp)
end Go.Proofs.YthcbaogbncakdaaGreatDoor.QFnGoalsReached
