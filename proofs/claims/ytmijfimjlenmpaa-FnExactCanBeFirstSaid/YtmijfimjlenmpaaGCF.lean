/- impl.CountFirsts, walked over its closure's contract. -/
import Derived.Test.YtmijfimjlenmpaaGCl
import Derived.Laws.EntriesVeiled
namespace Go.Proofs.Ytmijfimjlenmpaa.QFnExactMostPoints
open Go.RowKit Go.Proofs.YtmijfimjlenmpaaW.PrintWords Go.Proofs.YtmijfimjlenmpaaW.PrintLast Go.Proofs.YtmijfimjlenmpaaW.PrintMore
set_option linter.unusedVariables false
set_option linter.unusedSimpArgs false
def okCF (left : List (List Int)) (pts : List Int) (team : Int) : Bool := left.all (rowOk pts.length) && (decide (0 ≤ team) && (decide (team < (pts.length : Int)) && pts.all fun x => decide (-9223372036854775808 ≤ x) && decide (x < 9223372036854775808)))
def impl_CountFirsts.f (k : Nat) (a0_0 : Int) (a0_1 : Int) (l0_2 : List S68) (a1 : Int) : Option (Int × Bool) := (impl_isTeam.f k a0_0 a0_1 l0_2 a1).bind fun t => if t = true then ((impl_LeftResults.f k a0_0 a0_1 l0_2).bind fun q => if (q.1.length : Int) > 7 then some (0, false) else ((impl_League_allPoints.f k a0_0 a0_1 l0_2).bind fun p => if okCF q.1 p a1 = true then some (cnt a0_1 a1 q.1 p, true) else none)) else some (0, false)
theorem impl_CountFirsts.mono : ∀ a0 a1 a2 a3 k, LeO (impl_CountFirsts.f k a0 a1 a2 a3) (impl_CountFirsts.f (k + 1) a0 a1 a2 a3) := by
  intro a0 a1 a2 a3 k
  unfold impl_CountFirsts.f
  refine LeO.bind (impl_isTeam.mono _ _ _ _ _) (fun t => LeO.ite (LeO.bind (impl_LeftResults.mono _ _ _ _) (fun q => LeO.ite (LeO.refl _) (LeO.bind (impl_League_allPoints.mono _ _ _ _) (fun p => LeO.refl _)))) (LeO.refl _))
theorem holds_of_R {w : World} {base : Nat} {ok : Nat → Prop} {v : Value} {pts : List Int} (h : Kd.R (Kd.int .i64) 3 w base ok v pts) (hp : 0 < pts.length) : ∃ pb cap cur, v = .slice (some ⟨pb, 0, none⟩) pts.length cap ∧ base ≤ pb ∧ w.heap[pb]? = some (.cells cur 3 (0, 0)) ∧ Holds cur pts ∧ pts.length ≤ cap := by
  obtain ⟨pb, cap, rfl, hb, _, cur, hc⟩ := Kd.R_form h hp
  obtain ⟨A, c, e, hl, hC⟩ := Kd.R_reads h
  obtain ⟨rfl, _, rfl⟩ := Value.slice.inj e
  refine ⟨pb, _, cur, rfl, hb, hc, fun i h0 h1 => ?_, hl⟩
  obtain ⟨ad, ea, hx⟩ := Kd.at_int hC i h0 h1
  injection ea with ea
  subst ea
  rw [add_mk, blk_cell hc] at hx
  exact hx
set_option maxHeartbeats 8000000 in
set_option maxRecDepth 100000 in
theorem impl_CountFirsts.calls (k : Nat) (a0_0 : Int) (a0_1 : Int) (A0_2 : Option Addr) (c0_2 : Nat) (l0_2 : List (S68)) (a1 : Int) (r1 : Int) (r2 : Bool) (w : World) (hr0_2 : Kd.C k68 w A0_2 l0_2.length l0_2) (hc0_2 : l0_2.length ≤ c0_2) (h : impl_CountFirsts.f k a0_0 a0_1 l0_2 a1 = some (r1, r2)) :
    Calls Try.prog 14 #[.agg #[.int .i64 a0_0, .int .i64 a0_1, .slice A0_2 l0_2.length c0_2], .int .i64 a1] w fun e w' => e = .returned (.tuple #[.int .i64 r1, .bool r2]) ∧ Below w.heap.size w w' := by
  have hu30 := Try.underlying30
  have HR0_2 := Aside0.mk hr0_2
  have HC0_2 := Aside0.mk hc0_2
  clear hr0_2 hc0_2
  unfold impl_CountFirsts.f at h
  obtain ⟨t, ht, H⟩ := Option.bind_eq_some_iff.1 h
  clear h
  have A3 := Aside0.mk ht
  clear ht
  obtain ⟨oL, hoL⟩ : ∃ o, o = Obj.cells #[.int .i64 a0_0, .int .i64 a0_1, .slice A0_2 l0_2.length c0_2] 30 := ⟨_, rfl⟩
  cases t with
  | false =>
    obtain ⟨rfl, rfl⟩ := Prod.mk.inj (Option.some.inj H)
    clear H hoL oL
    go_enter Try.func14, Try.ntmps14
    go_wp2_with (go_at_call 31; (with_reducible refine (impl_isTeam.calls k a0_0 a0_1 A0_2 c0_2 l0_2 a1 false _ ?sa ?sb A3.out).mono ?_); (case sa => exact Kd.C_alloc (Kd.C_alloc HR0_2.out _) _); (case sb => exact HC0_2.out); rintro e w2 ⟨rfl, hb2⟩; have HB2 := Aside0.mk (below_step (below_alloc (below_alloc (Below.refl _ _) _) _) hb2); clear hb2)
    go_ret2
    exact ⟨rfl, HB2.out⟩
  | true =>
    clear hoL oL
    replace H := (if_pos rfl).symm.trans H
    obtain ⟨⟨left, q2⟩, hq, H⟩ := Option.bind_eq_some_iff.1 H
    have A5 := Aside0.mk hq
    clear hq
    by_cases c : (left.length : Int) > 7
    · replace H := (if_pos c).symm.trans H
      obtain ⟨rfl, rfl⟩ := Prod.mk.inj (Option.some.inj H)
      have cb : decide (7 < (left.length : Int)) = true := decide_eq_true c
      have cb2 : decide (7 < left.length) = true := decide_eq_true (by omega)
      clear H c
      go_enter Try.func14, Try.ntmps14
      go_wp2_with (first
        | (go_at_call 31; (with_reducible refine (impl_isTeam.calls k a0_0 a0_1 A0_2 c0_2 l0_2 a1 true _ ?sa ?sb A3.out).mono ?_); (case sa => exact Kd.C_alloc (Kd.C_alloc HR0_2.out _) _); (case sb => exact HC0_2.out); rintro e w2 ⟨rfl, hb2⟩; have HB2 := Aside0.mk (below_step (below_alloc (below_alloc (Below.refl _ _) _) _) hb2); have BL2 := Aside0.mk (blk_below (blk_alloc (blk_new w (.cells #[.int .i64 a0_0, .int .i64 a0_1, .slice A0_2 l0_2.length c0_2] 30)) (.cells #[.int .i64 a1] 3)) hb2); have l0 : w2.cell? ⟨w.heap.size, 0, none⟩ = some (.int .i64 a0_0) := (blk_cell BL2.out 0).trans rfl; have l1 : w2.cell? ⟨w.heap.size, 1, none⟩ = some (.int .i64 a0_1) := (blk_cell BL2.out 1).trans rfl; have l2 : w2.cell? ⟨w.heap.size, 2, none⟩ = some (.slice A0_2 l0_2.length c0_2) := (blk_cell BL2.out 2).trans rfl; clear hb2)
        | (go_at_call 32; (with_reducible refine (impl_LeftResults.calls k a0_0 a0_1 A0_2 c0_2 l0_2 left q2 _ ?sa ?sb A5.out).mono ?_); (case sa => exact Kd.C_below HR0_2.out HB2.out); (case sb => exact HC0_2.out); rintro e w3 ⟨v3, rfl, hS3, hb3⟩; have HB3 := Aside0.mk (below_step HB2.out hb3); obtain ⟨AL, cL, eS⟩ := Kd.S_slice hS3; subst eS; clear hb3 hS3))
      go_ret2
      exact ⟨rfl, below_alloc HB3.out _⟩
    · replace H := (if_neg c).symm.trans H
      have cb : decide (7 < (left.length : Int)) = false := decide_eq_false c
      have cb2 : decide (7 < left.length) = false := decide_eq_false (by omega)
      clear c
      obtain ⟨pts, hp, H⟩ := Option.bind_eq_some_iff.1 H
      have A7 := Aside0.mk hp
      clear hp
      by_cases hok : okCF left pts a1 = true
      · replace H := (if_pos hok).symm.trans H
        obtain ⟨rfl, rfl⟩ := Prod.mk.inj (Option.some.inj H)
        clear H
        unfold okCF at hok
        simp only [Bool.and_eq_true, decide_eq_true_eq] at hok
        obtain ⟨o1, o2, o3, o4⟩ := hok
        have HRows := Aside0.mk (fun g hg => List.all_eq_true.1 o1 g hg)
        have HT := Aside0.mk (And.intro o2 o3)
        have HRange : Aside0 (∀ i, 0 ≤ i → i < (pts.length : Int) → -9223372036854775808 ≤ rd pts i ∧ rd pts i < 9223372036854775808) := ⟨fun i h0 h1 => by
          have hlt : i.toNat < pts.length := by omega
          have hr : rd pts i = pts[i.toNat] := by unfold rd; simp [List.getD_eq_getElem?_getD, List.getElem?_eq_getElem hlt]
          have := List.all_eq_true.1 o4 _ (List.getElem_mem hlt)
          simp only [Bool.and_eq_true, decide_eq_true_eq] at this
          rw [hr]
          exact this⟩
        clear o1 o2 o3 o4
        go_enter Try.func14, Try.ntmps14
        go_upto_region 8 with (first
          | (go_at_call 31; (with_reducible refine (impl_isTeam.calls k a0_0 a0_1 A0_2 c0_2 l0_2 a1 true _ ?sa ?sb A3.out).mono ?_); (case sa => exact Kd.C_alloc (Kd.C_alloc HR0_2.out _) _); (case sb => exact HC0_2.out); rintro e w2 ⟨rfl, hb2⟩; have HB2 := Aside0.mk (below_step (below_alloc (below_alloc (Below.refl _ _) _) _) hb2); have BL2 := Aside0.mk (blk_below (blk_alloc (blk_new w (.cells #[.int .i64 a0_0, .int .i64 a0_1, .slice A0_2 l0_2.length c0_2] 30)) (.cells #[.int .i64 a1] 3)) hb2); have BT2 := Aside0.mk (blk_below (g := w.heap.size + 1) (o := .cells #[.int .i64 a1] 3 (0, 0)) (by simpa using (blk_new (w.alloc (.cells #[.int .i64 a0_0, .int .i64 a0_1, .slice A0_2 l0_2.length c0_2] 30)) (.cells #[.int .i64 a1] 3))) hb2); have l0 : w2.cell? ⟨w.heap.size, 0, none⟩ = some (.int .i64 a0_0) := (blk_cell BL2.out 0).trans rfl; have l1 : w2.cell? ⟨w.heap.size, 1, none⟩ = some (.int .i64 a0_1) := (blk_cell BL2.out 1).trans rfl; have l2 : w2.cell? ⟨w.heap.size, 2, none⟩ = some (.slice A0_2 l0_2.length c0_2) := (blk_cell BL2.out 2).trans rfl; clear hb2)
          | (go_at_call 32; (with_reducible refine (impl_LeftResults.calls k a0_0 a0_1 A0_2 c0_2 l0_2 left q2 _ ?sa ?sb A5.out).mono ?_); (case sa => exact Kd.C_below HR0_2.out HB2.out); (case sb => exact HC0_2.out); rintro e w3 ⟨v3, rfl, hS3, hb3⟩; have HB3 := Aside0.mk (below_step HB2.out hb3); have BL3 := Aside0.mk (blk_below BL2.out hb3); have BT3 := Aside0.mk (blk_below BT2.out hb3); obtain ⟨AL, cL, eS⟩ := Kd.S_slice hS3; subst eS; have HS3 := Aside0.mk hS3; have m0 : ∀ o, (w3.alloc o).cell? ⟨w.heap.size, 0, none⟩ = some (.int .i64 a0_0) := fun o => Lib.cell?_alloc_some o ((blk_cell BL3.out 0).trans rfl); have m1 : ∀ o, (w3.alloc o).cell? ⟨w.heap.size, 1, none⟩ = some (.int .i64 a0_1) := fun o => Lib.cell?_alloc_some o ((blk_cell BL3.out 1).trans rfl); have m2 : ∀ o, (w3.alloc o).cell? ⟨w.heap.size, 2, none⟩ = some (.slice A0_2 l0_2.length c0_2) := fun o => Lib.cell?_alloc_some o ((blk_cell BL3.out 2).trans rfl); clear hb3 hS3 l0 l1 l2)
          | (go_at_call 33; (with_reducible refine (impl_League_allPoints.calls k a0_0 a0_1 A0_2 c0_2 l0_2 pts _ ?sa ?sb A7.out).mono ?_); (case sa => exact Kd.C_alloc (Kd.C_below HR0_2.out HB3.out) _); (case sb => exact HC0_2.out); rintro e w4 ⟨v4, rfl, hR4, hb4⟩; have HB4 := Aside0.mk (below_step (below_alloc HB3.out _) hb4); have BL4 := Aside0.mk (blk_below (blk_alloc BL3.out _) hb4); have BT4 := Aside0.mk (blk_below (blk_alloc BT3.out _) hb4); have Bl4 := Aside0.mk (blk_below (blk_new w3 (.cells #[.slice AL left.length cL] 46)) hb4); obtain ⟨pb, cp, cur, eR, hpb, hcur, hHo, hcp⟩ := holds_of_R hR4 (by have := HT.out; omega); subst eR; have HPB := Aside0.mk hpb; have HCUR := Aside0.mk hcur; have HHo := Aside0.mk hHo; have HCP := Aside0.mk hcp; have HLm := Aside0.mk (Kd.R_reads hR4); have HB34 := Aside0.mk hb4; clear hb4 hR4 m0 m1 m2 hpb hcur hHo hcp))
        have N0 : ((w4.alloc (.cells #[.slice (some ⟨pb, 0, none⟩) pts.length cp] 36)).alloc (.cells #[.nilFunc] 56)).heap[w4.heap.size + 1]? = some (.cells #[.nilFunc] 56 (0, 0)) := by
          have := blk_new (w4.alloc (.cells #[.slice (some ⟨pb, 0, none⟩) pts.length cp] 36)) (.cells #[.nilFunc] 56)
          simpa using this
        have Np : ((w4.alloc (.cells #[.slice (some ⟨pb, 0, none⟩) pts.length cp] 36)).alloc (.cells #[.nilFunc] 56)).heap[w4.heap.size]? = some (.cells #[.slice (some ⟨pb, 0, none⟩) pts.length cp] 36 (0, 0)) := blk_alloc (blk_new w4 _) _
        have Nl : ((w4.alloc (.cells #[.slice (some ⟨pb, 0, none⟩) pts.length cp] 36)).alloc (.cells #[.nilFunc] 56)).heap[w3.heap.size]? = _ := blk_alloc (blk_alloc Bl4.out _) _
        have Nt : ((w4.alloc (.cells #[.slice (some ⟨pb, 0, none⟩) pts.length cp] 36)).alloc (.cells #[.nilFunc] 56)).heap[w.heap.size + 1]? = _ := blk_alloc (blk_alloc BT4.out _) _
        have NL : ((w4.alloc (.cells #[.slice (some ⟨pb, 0, none⟩) pts.length cp] 36)).alloc (.cells #[.nilFunc] 56)).heap[w.heap.size]? = _ := blk_alloc (blk_alloc BL4.out _) _
        have Nc : ((w4.alloc (.cells #[.slice (some ⟨pb, 0, none⟩) pts.length cp] 36)).alloc (.cells #[.nilFunc] 56)).heap[pb]? = _ := blk_alloc (blk_alloc HCUR.out _) _
        have Hp4 : w4.heap.size + 1 ≠ pb := by have := blk_lt HCUR.out; omega
        have Hq4 : w4.heap.size ≠ pb := by have := blk_lt HCUR.out; omega
        have hpb1 : w3.heap.size + 1 ≤ pb := by have := HPB.out; simpa using this
        have hbl : w.heap.size < w3.heap.size := blk_lt BL3.out
        have hbt : w.heap.size + 1 < w3.heap.size := blk_lt BT3.out
        have hz34 : w3.heap.size < w4.heap.size := blk_lt Bl4.out
        have HBw : Below w.heap.size w ((w4.alloc (.cells #[.slice (some ⟨pb, 0, none⟩) pts.length cp] 36)).alloc (.cells #[.nilFunc] 56)) := below_alloc (below_alloc HB4.out _) _
        have hB4' : Below w3.heap.size w3 ((w4.alloc (.cells #[.slice (some ⟨pb, 0, none⟩) pts.length cp] 36)).alloc (.cells #[.nilFunc] 56)) := below_alloc (below_alloc (below_step (below_alloc (Below.refl _ _) _) HB34.out) _) _
        obtain ⟨bp, hbp⟩ : ∃ b, b = w4.heap.size := ⟨_, rfl⟩
        rw [← hbp] at N0 Np Hp4 Hq4 hz34 ⊢
        obtain ⟨bl, hbl_⟩ : ∃ b, b = w3.heap.size := ⟨_, rfl⟩
        rw [← hbl_] at Nl hz34 ⊢
        obtain ⟨bL, hbL_⟩ : ∃ b, b = w.heap.size := ⟨_, rfl⟩
        rw [← hbL_] at NL Nt hbt hbl ⊢
        generalize ((w4.alloc (.cells #[.slice (some ⟨pb, 0, none⟩) pts.length cp] 36)).alloc (.cells #[.nilFunc] 56)) = w6 at N0 Np Nl Nt NL Nc HBw hB4' ⊢
        have N1 := blk_set N0 0 (.func (.func 38) #[] #[.pointer (some ⟨bl, 0, none⟩), .pointer (some ⟨bp, 0, none⟩), .pointer (some ⟨bL + 1, 0, none⟩), .pointer (some ⟨bL, 0, none⟩), .pointer (some ⟨bp + 1, 0, none⟩)])
        have EE : Env bl bp (bL + 1) bL (bp + 1) pb AL left.length cL pts.length cp a1 a0_0 a0_1 A0_2 l0_2.length c0_2 (w6.setCell ⟨bp + 1, 0, none⟩ (.func (.func 38) #[] #[.pointer (some ⟨bl, 0, none⟩), .pointer (some ⟨bp, 0, none⟩), .pointer (some ⟨bL + 1, 0, none⟩), .pointer (some ⟨bL, 0, none⟩), .pointer (some ⟨bp + 1, 0, none⟩)])) :=
          ⟨blk_far Nl (by show bl ≠ bp + 1; omega) _, blk_far Np (by show bp ≠ bp + 1; omega) _,
           blk_far Nt (by show bL + 1 ≠ bp + 1; omega) _, blk_far NL (by show bL ≠ bp + 1; omega) _, N1,
           by omega, Hq4, by omega, by omega, Hp4⟩
        have PP := blk_far (p := ⟨bp + 1, 0, none⟩) Nc (fun e => Hp4 e.symm) (.func (.func 38) #[] #[.pointer (some ⟨bl, 0, none⟩), .pointer (some ⟨bp, 0, none⟩), .pointer (some ⟨bL + 1, 0, none⟩), .pointer (some ⟨bL, 0, none⟩), .pointer (some ⟨bp + 1, 0, none⟩)])
        have hBL := Below.setCell (p := ⟨bp + 1, 0, none⟩) hB4' (by show w3.heap.size ≤ bp + 1; omega) (.func (.func 38) #[] #[.pointer (some ⟨bl, 0, none⟩), .pointer (some ⟨bp, 0, none⟩), .pointer (some ⟨bL + 1, 0, none⟩), .pointer (some ⟨bL, 0, none⟩), .pointer (some ⟨bp + 1, 0, none⟩)])
        have hcall := count.calls bl bp (bL + 1) bL (bp + 1) pb AL cL pts.length cp a1 a0_0 a0_1 A0_2 c0_2 l0_2 w3 left (Kd.S_reads' HS3.out).2.2 (Kd.C_below HR0_2.out HB3.out) HC0_2.out (by omega) HRows.out HT.out.1 HT.out.2 HCP.out (by obtain ⟨_, _, _, _, hC⟩ := HLm.out; exact hC.2.1) left.length 0 (by omega) pts cur _ hBL EE PP HHo.out rfl HRange.out
        rw [List.drop_zero] at hcall
        rw [show ((0 : Nat) : Int) = 0 from rfl] at hcall
        have HCALL := Aside0.mk hcall
        have f1 := (blk_cell N0 0).trans (show (#[Value.nilFunc] : Array Value)[0]? = some .nilFunc from rfl)
        have f2 := blk_frozen N0 0
        have f3 := (blk_cell N1 0).trans (show _ = some (Value.func (.func 38) #[] #[.pointer (some ⟨bl, 0, none⟩), .pointer (some ⟨bp, 0, none⟩), .pointer (some ⟨bL + 1, 0, none⟩), .pointer (some ⟨bL, 0, none⟩), .pointer (some ⟨bp + 1, 0, none⟩)]) from rfl)
        have HBx := Aside0.mk (Below.setCell (p := ⟨bp + 1, 0, none⟩) HBw (by show w.heap.size ≤ bp + 1; omega) (.func (.func 38) #[] #[.pointer (some ⟨bl, 0, none⟩), .pointer (some ⟨bp, 0, none⟩), .pointer (some ⟨bL + 1, 0, none⟩), .pointer (some ⟨bL, 0, none⟩), .pointer (some ⟨bp + 1, 0, none⟩)]))
        clear hcall hBL hB4' HBw PP EE hz34 hbt hbl hpb1 Hq4 Hp4 N0 N1 Np Nl Nt NL Nc hbp hbl_ hbL_
        go_wp2_with (go_at_call 38; (with_reducible refine (HCALL.out).mono ?_); rintro e w5 ⟨rfl, hb5⟩; have HB5 := Aside0.mk (below_step HBx.out hb5); clear hb5)
        go_ret2
        exact ⟨rfl, HB5.out⟩
      · exact absurd ((if_neg hok).symm.trans H) (by simp)
end Go.Proofs.Ytmijfimjlenmpaa.QFnExactMostPoints
