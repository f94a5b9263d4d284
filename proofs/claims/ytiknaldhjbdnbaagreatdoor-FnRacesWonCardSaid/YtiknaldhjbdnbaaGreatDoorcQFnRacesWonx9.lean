import Derived.Test.YtiknaldhjbdnbaaGreatDoorcQFnRacesWonx0
import Derived.Test.YtiknaldhjbdnbaaGreatDoorcQFnRacesWonx1
import Derived.Test.YtiknaldhjbdnbaaGreatDoorcQFnRacesWonx3
import Derived.Test.YtiknaldhjbdnbaaGreatDoorcGQ
namespace Go.Proofs.YtiknaldhjbdnbaaGreatDoor.QFnRacesWon
open Go.RowKit Go.Proofs.YtiknaldhjbdnbaaGreatDoorW.PrintWords Go.Proofs.YtiknaldhjbdnbaaGreatDoorW.PrintLast Go.Proofs.YtiknaldhjbdnbaaGreatDoorW.PrintMore Go.Proofs.YtiknaldhjbdnbaaGreatDoor.Sh
attribute [local go_sem] max2_int min2_int max_two min_two max_three min_three max_four min_four
set_option linter.unusedVariables false
set_option linter.unusedSimpArgs false
mutual
def spec_MatchOf.j0 : Nat → List ByteArray → Int → Bool → Int → Int → Option (ByteArray × Bool)
 | 0, _, _, _, _, _ => none
 | k + 1, x1, x2, x24, x436000, x436001 => if x24 = true then (some ((⟨#[]⟩ : ByteArray), false)) else (spec_MatchOf.l0 k x2 0 0 x1 (x1.length : Int) 0 x436000 x436001)
def spec_MatchOf.l0 : Nat → Int → Int → Int → List ByteArray → Int → Int → Int → Int → Option (ByteArray × Bool)
 | 0, _, _, _, _, _, _, _, _ => none
 | k + 1, x2, x8, x9, x25, x26, x27, x436000, x436001 => if x27 < x26 then (if 0 ≤ x27 then (if x27 < (x25.length : Int) then (if x8 = x2 then (spec_MatchOf.j2 k x2 x8 x9 (rdOf ByteArray.empty x25 x27) x25 x26 x27 true x436000 x436001) else (if x9 = x2 then (spec_MatchOf.j2 k x2 x8 x9 (rdOf ByteArray.empty x25 x27) x25 x26 x27 true x436000 x436001) else ((spec_raIs.f k x436000 x436001 (rdOf ByteArray.empty x25 x27)).bind fun t439 => (spec_MatchOf.j2 k x2 x8 x9 (rdOf ByteArray.empty x25 x27) x25 x26 x27 (!t439) x436000 x436001)))) else (none)) else (none)) else (if x2 = x8 then (some ((⟨#[97]⟩ : ByteArray), true)) else (if x2 = x9 then (some ((⟨#[98]⟩ : ByteArray), true)) else (some ((⟨#[45]⟩ : ByteArray), true))))
def spec_MatchOf.j2 : Nat → Int → Int → Int → ByteArray → List ByteArray → Int → Int → Bool → Int → Int → Option (ByteArray × Bool)
 | 0, _, _, _, _, _, _, _, _, _, _ => none
 | k + 1, x2, x8, x9, x11, x25, x26, x27, x44, x436000, x436001 => if x44 = true then (some ((⟨#[]⟩ : ByteArray), false)) else ((spec_raSide.f k x436000 x436001 x11).bind fun t440 => (if t440.toList = ([97] : List UInt8) then (spec_MatchOf.l0 k x2 (wrap64 (x8 + 1)) x9 x25 x26 (wrap64 (x27 + 1)) x436000 x436001) else (if t440.toList = ([98] : List UInt8) then (spec_MatchOf.l0 k x2 x8 (wrap64 (x9 + 1)) x25 x26 (wrap64 (x27 + 1)) x436000 x436001) else (some ((⟨#[]⟩ : ByteArray), false)))))
end
def spec_MatchOf.f (k : Nat) (a0_0 : Int) (a0_1 : Int) (l1 : List ByteArray) (a2 : Int) : Option (ByteArray × Bool) := (spec_raGood.f a0_0 a0_1).bind fun t436 => (if t436 = true then (if (l1.length : Int) > 9 then (spec_MatchOf.j0 k l1 a2 true a0_0 a0_1) else ((spec_l1In.f a2 1 5).bind fun t437 => (spec_MatchOf.j0 k l1 a2 (!t437) a0_0 a0_1))) else (spec_MatchOf.j0 k l1 a2 true a0_0 a0_1))
set_option maxHeartbeats 8000000 in
set_option maxRecDepth 100000 in
theorem spec_MatchOf.calls (k : Nat) (a0_0 : Int) (a0_1 : Int) (A1 : Option Addr) (c1 : Nat) (l1 : List ByteArray) (a2 : Int) (r1 : ByteArray) (r2 : Bool) (w : World) (hr1 : Kd.C Kd.string w A1 l1.length l1) (hc1 : l1.length ≤ c1) (h : spec_MatchOf.f k a0_0 a0_1 l1 a2 = some (r1, r2)) :
  Calls Tryz.prog 31 #[.agg #[.int .i64 a0_0, .int .i64 a0_1], .slice A1 l1.length c1, .int .i64 a2] w fun e w' => e = .returned (.tuple #[.string r1, .bool r2]) ∧ Below w.heap.size w w' := by
 have hu25 := Tryz.underlying25; have HR1 := a_ hr1; have HC1 := a_ hc1; clear hr1 hc1; have HB := a_ (Below.refl w.heap.size w); have H : ((spec_raGood.f a0_0 a0_1).bind fun t436 => (if t436 = true then (if (l1.length : Int) > 9 then (spec_MatchOf.j0 k l1 a2 true a0_0 a0_1) else ((spec_l1In.f a2 1 5).bind fun t437 => (spec_MatchOf.j0 k l1 a2 (!t437) a0_0 a0_1))) else (spec_MatchOf.j0 k l1 a2 true a0_0 a0_1))) = some (r1, r2) := h; clear h; have HC4 := a_ H; clear H
 go_enter Tryz.func31, Tryz.ntmps31
 go_upto_region 1 with (first | ((with_reducible refine gate_dst (N := 3) rfl ?_); (try (refine gate_guard (by rfl) ?_; dsimp only)); refine box_event ?hg (N := 3) ?hd (cs := #[.int .i64 a0_0, .int .i64 a0_1]) (t := 25) ?hr ?_; (case hd => rfl); (case hg => rfl); (case hr => first | (go_simp; done) | (go_simp; rfl)); intro gb435 hg w5 hbox hb; have n0_ := a_ (below_step (L_ HB.out (Nat.le_refl _) (Nat.le_refl _) (Nat.le_refl _)) hb); have n1_ := a_ (hbox); have n2_ := a_ ((by rw [hg]; exact (below_size (L_ HB.out (Nat.le_refl _) (Nat.le_refl _) (Nat.le_refl _))) : w.heap.size ≤ gb435)); have n3_ := a_ ((by rw [hg]; exact (below_size (L_ HB.out (Nat.le_refl _) (Nat.le_refl _) (Nat.le_refl _))) : w.heap.size ≤ gb435)); clear HB; have HB := n0_; have BK435 := n1_; have GW435 := n2_; have GE435 := n3_; clear n0_ n1_ n2_ n3_; clear hb hbox hg))
 (try simp only [Act.put, List.setIfInBounds_toArray, List.set_cons_zero, List.set_cons_succ])
 go_cut [24] (fun v24 wc => ∃ (kq : Nat) (x24_3 : Bool), v24 = .bool x24_3 ∧ Aside0 (spec_MatchOf.j0 kq l1 a2 x24_3 a0_0 a0_1 = some (r1, r2)) ∧ Aside0 (kq ≤ k) ∧ Aside0 (wc.heap[gb435]? = some (.cells #[.int .i64 a0_0, .int .i64 a0_1] 25 (0, 0))) ∧ Aside0 (Below w.heap.size w wc))
 case first =>
  have H := HC4.out; clear HC4; replace H := Option.bind_eq_some_iff.mp H; obtain ⟨t436, A60, H⟩ := H; replace H : (if t436 = true then (if (l1.length : Int) > 9 then (spec_MatchOf.j0 k l1 a2 true a0_0 a0_1) else ((spec_l1In.f a2 1 5).bind fun t437 => (spec_MatchOf.j0 k l1 a2 (!t437) a0_0 a0_1))) else (spec_MatchOf.j0 k l1 a2 true a0_0 a0_1)) = some (r1, r2) := H; have A6 := a_ A60; clear A60
  by_cases c7 : t436 = true
  ·
   subst c7; have H1 : (if (l1.length : Int) > 9 then (spec_MatchOf.j0 k l1 a2 true a0_0 a0_1) else ((spec_l1In.f a2 1 5).bind fun t437 => (spec_MatchOf.j0 k l1 a2 (!t437) a0_0 a0_1))) = some (r1, r2) := by rw [if_pos rfl] at H; exact H
   clear H; have H := H1; clear H1
   by_cases c8 : (l1.length : Int) > 9
   ·
    rw [if_pos c8] at H; have c8b0 : decide (9 < (l1.length : Int)) = true := decide_eq_true c8; have c8b1 : decide (9 < l1.length) = true := decide_eq_true (by omega); clear c8
    (first | rw [c8b0] | (simp only [i64_w, i32_w]; rw [c8b0]) | skip)
    have H' := a_ H; clear H; have hcz9_0 : w5.cell? ⟨gb435, 0, none⟩ = some (.int .i64 a0_0) := c_ BK435.out 0; have hcz9_1 : w5.cell? ⟨gb435, 1, none⟩ = some (.int .i64 a0_1) := c_ BK435.out 1; have hfz9_0 := blk_frozen BK435.out 0; have hfz9_1 := blk_frozen BK435.out 1
    go_wp2_with (first | ((with_reducible refine gate_callee (f := 44) rfl ?_); refine goesL_ (some 13) rfl rfl Tryz.func44 t9_ rfl #[.agg #[.int .i64 a0_0, .int .i64 a0_1]] rfl (by (try simp only [m1_, m2_, m3_]); first | done | rfl) ?_; (with_reducible refine (spec_raGood.calls a0_0 a0_1 true _ A6.out).mono ?_); rintro e w10 ⟨rfl, hb⟩; refine ⟨_, rfl, ?_⟩; have n0_ := bb_ BK435 hb; have n1_ := a_ (below_step (L_ HB.out GE435.out GE435.out GE435.out) hb); clear BK435; clear HB; have BK435 := n0_; have HB := n1_; clear n0_ n1_; (try clear hb); (try clear hb2); (try clear hk); (try clear hi)))
    go_meet
    case rel => exact ⟨_, (true), t1_, H', ⟨t16_⟩, ⟨B_ BK435.out⟩, ⟨L_ HB.out GE435.out GE435.out GE435.out⟩⟩
   ·
    rw [if_neg c8] at H; have c8b0 : decide (9 < (l1.length : Int)) = false := decide_eq_false c8; have c8b1 : decide (9 < l1.length) = false := decide_eq_false (by omega); clear c8
    (first | rw [c8b0] | (simp only [i64_w, i32_w]; rw [c8b0]) | skip)
    replace H := Option.bind_eq_some_iff.mp H; obtain ⟨t437, A110, H⟩ := H; replace H : (spec_MatchOf.j0 k l1 a2 (!t437) a0_0 a0_1) = some (r1, r2) := H; have A11 := a_ A110; clear A110; have H' := a_ H; clear H; have hcz12_0 : w5.cell? ⟨gb435, 0, none⟩ = some (.int .i64 a0_0) := c_ BK435.out 0; have hcz12_1 : w5.cell? ⟨gb435, 1, none⟩ = some (.int .i64 a0_1) := c_ BK435.out 1; have hfz12_0 := blk_frozen BK435.out 0; have hfz12_1 := blk_frozen BK435.out 1
    go_wp2_with (first | ((with_reducible refine gate_callee (f := 44) rfl ?_); refine goesL_ (some 13) rfl rfl Tryz.func44 t9_ rfl #[.agg #[.int .i64 a0_0, .int .i64 a0_1]] rfl (by (try simp only [m1_, m2_, m3_]); first | done | rfl) ?_; (with_reducible refine (spec_raGood.calls a0_0 a0_1 true _ A6.out).mono ?_); rintro e w13 ⟨rfl, hb⟩; refine ⟨_, rfl, ?_⟩; have n0_ := bb_ BK435 hb; have n1_ := a_ (below_step (L_ HB.out GE435.out GE435.out GE435.out) hb); clear BK435; clear HB; have BK435 := n0_; have HB := n1_; clear n0_ n1_; (try clear hb); (try clear hb2); (try clear hk); (try clear hi)) | (go_at_call 51; (with_reducible refine (spec_l1In.calls a2 1 5 t437 _ A11.out).mono ?_); rintro e w' ⟨rfl, ⟨nd, rfl⟩⟩))
    go_meet
    case rel => exact ⟨_, (!t437), t1_, H', ⟨t16_⟩, ⟨B_ BK435.out⟩, ⟨L_ HB.out GE435.out GE435.out GE435.out⟩⟩
  ·
   replace c7 := Bool.eq_false_iff.mpr c7; subst c7; have H1 : (spec_MatchOf.j0 k l1 a2 true a0_0 a0_1) = some (r1, r2) := by rw [if_neg (show ¬ (false = true) by decide)] at H; exact H
   clear H; have H := H1; clear H1; have H' := a_ H; clear H; have hcz14_0 : w5.cell? ⟨gb435, 0, none⟩ = some (.int .i64 a0_0) := c_ BK435.out 0; have hcz14_1 : w5.cell? ⟨gb435, 1, none⟩ = some (.int .i64 a0_1) := c_ BK435.out 1; have hfz14_0 := blk_frozen BK435.out 0; have hfz14_1 := blk_frozen BK435.out 1
   go_wp2_with (first | ((with_reducible refine gate_callee (f := 44) rfl ?_); refine goesL_ (some 13) rfl rfl Tryz.func44 t9_ rfl #[.agg #[.int .i64 a0_0, .int .i64 a0_1]] rfl (by (try simp only [m1_, m2_, m3_]); first | done | rfl) ?_; (with_reducible refine (spec_raGood.calls a0_0 a0_1 false _ A6.out).mono ?_); rintro e w15 ⟨rfl, hb⟩; refine ⟨_, rfl, ?_⟩; have n0_ := bb_ BK435 hb; have n1_ := a_ (below_step (L_ HB.out GE435.out GE435.out GE435.out) hb); clear BK435; clear HB; have BK435 := n0_; have HB := n1_; clear n0_ n1_; (try clear hb); (try clear hb2); (try clear hk); (try clear hi)))
   go_meet
   case rel => exact ⟨_, (true), t1_, H', ⟨t16_⟩, ⟨B_ BK435.out⟩, ⟨L_ HB.out GE435.out GE435.out GE435.out⟩⟩
 case rest =>
  clear HC4; obtain ⟨kq, x24_3, rfl, HA, HJ3, BK435, HB⟩ := hcut
  cases kq with
  | zero => exact absurd HA.out (by simp [spec_MatchOf.j0])
  | succ kj3 =>
   have H := HA.out; clear HA; simp only [spec_MatchOf.j0] at H
   by_cases c16 : x24_3 = true
   ·
    subst c16; have H1 : (some ((⟨#[]⟩ : ByteArray), false)) = some (r1, r2) := by rw [if_pos rfl] at H; exact H
    clear H; have H := H1; clear H1; simp only [Option.some.injEq, Prod.mk.injEq] at H; obtain ⟨rfl, rfl⟩ := H
    go_wp2
    go_ret2
    exact ⟨by first | rfl | (simp [errW_none, errW_some] <;> rfl) | (simp [*, errW_none, errW_some] <;> rfl), by repeat (first | (with_reducible first | exact HB.out | apply below_alloc | apply pw_below_drewN | apply below_drew1 | refine below_set ?_ GE435.out) | exact HB.out)⟩
   ·
    replace c16 := Bool.eq_false_iff.mpr c16; subst c16; have H1 : (spec_MatchOf.l0 kj3 a2 0 0 l1 (l1.length : Int) 0 a0_0 a0_1) = some (r1, r2) := by rw [if_neg (show ¬ (false = true) by decide)] at H; exact H
    clear H; have H := H1; clear H1; have H' := a_ H; clear H
    go_wp2
    go_loopg [8, 9, 27] kj3 (fun kq v8 v9 v27 w' => ∃ (x8_2 : Int) (x9_2 : Int) (x27_2 : Int), v8 = .int .i64 x8_2 ∧ v9 = .int .i64 x9_2 ∧ v27 = .int .i64 x27_2 ∧ Aside0 (spec_MatchOf.l0 kq a2 x8_2 x9_2 l1 (l1.length : Int) x27_2 a0_0 a0_1 = some (r1, r2)) ∧ Aside0 (kq ≤ kj3) ∧ Aside0 (w'.heap[gb435]? = some (.cells #[.int .i64 a0_0, .int .i64 a0_1] 25 (0, 0))) ∧ Aside0 (Below w.heap.size w w'))
    case atStart => exact ⟨(0), (0), (0), t1_, t1_, t1_, H', ⟨Nat.le_refl _⟩, ⟨B_ BK435.out⟩, ⟨L_ HB.out GE435.out GE435.out GE435.out⟩⟩
    case round =>
     clear H'; obtain ⟨x8_2, x9_2, x27_2, rfl, rfl, rfl, HA, HK2, BK435, HB⟩ := hrel
     cases gk with
     | zero => exact absurd HA.out (by simp [spec_MatchOf.l0])
     | succ k2 =>
      have H := HA.out; clear HA; simp only [spec_MatchOf.l0] at H
      by_cases c17 : x27_2 < (l1.length : Int)
      ·
       rw [if_pos c17] at H; have c17b0 : decide (x27_2 < (l1.length : Int)) = true := decide_eq_true c17; clear c17
       by_cases c18 : 0 ≤ x27_2
       ·
        rw [if_pos c18] at H; have c18b0 : decide (0 ≤ x27_2) = true := decide_eq_true c18; clear c18
        by_cases c19 : x27_2 < (l1.length : Int)
        ·
         rw [if_pos c19] at H; have c19b0 : decide (x27_2 < (l1.length : Int)) = true := decide_eq_true c19; clear c19; have HC20 := a_ H; clear H; have p438 : 0 ≤ (x27_2 : Int) := of_decide_eq_true t2_; have q438 : x27_2 < (l1.length : Int) := of_decide_eq_true t2_; obtain ⟨ad438, e438, hx438_0⟩ := Kd.at_string HR1.out x27_2 p438 q438
         cases e438
         replace hx438_0 := (HB.out.cell (World.block_lt_of_cell? w _ hx438_0)).trans hx438_0; replace p438 := eq_true p438; replace q438 := eq_true q438
         go_upto_region 7 with (fail)
         go_cut [44] (fun v44 wc => ∃ (kq : Nat) (x44_19 : Bool), v44 = .bool x44_19 ∧ Aside0 (spec_MatchOf.j2 kq a2 x8_2 x9_2 (rdOf ByteArray.empty l1 x27_2) l1 (l1.length : Int) x27_2 x44_19 a0_0 a0_1 = some (r1, r2)) ∧ Aside0 (kq ≤ k2) ∧ Aside0 (wc.heap[gb435]? = some (.cells #[.int .i64 a0_0, .int .i64 a0_1] 25 (0, 0))) ∧ Aside0 (Below w.heap.size w wc))
         case first =>
          have H := HC20.out; clear HC20
          by_cases c21 : x8_2 = a2
          ·
           rw [if_pos c21] at H; have c21b0 : (x8_2 == a2) = true := beq_iff_eq.mpr c21; have c21b1 : (x8_2 != a2) = false := bne_eq_false_iff_eq.mpr c21; clear c21
           (first | rw [c21b0] | (simp only [i64_w, i32_w]; rw [c21b0]) | skip)
           have H' := a_ H; clear H
           go_wp2
           go_meet
           case rel => exact ⟨_, (true), t1_, H', ⟨t49_⟩, ⟨B_ BK435.out⟩, ⟨L_ HB.out GE435.out GE435.out GE435.out⟩⟩
          ·
           rw [if_neg c21] at H; have c21b0 : (x8_2 == a2) = false := beq_eq_false_iff_ne.mpr c21; have c21b1 : (x8_2 != a2) = true := bne_iff_ne.mpr c21
           (first | rw [c21b0] | (simp only [i64_w, i32_w]; rw [c21b0]) | skip)
           by_cases c22 : x9_2 = a2
           ·
            rw [if_pos c22] at H; have c22b0 : (x9_2 == a2) = true := beq_iff_eq.mpr c22; have c22b1 : (x9_2 != a2) = false := bne_eq_false_iff_eq.mpr c22; clear c22; have H' := a_ H; clear H
            go_wp2
            go_meet
            case rel => exact ⟨_, (true), t1_, H', ⟨t49_⟩, ⟨B_ BK435.out⟩, ⟨L_ HB.out GE435.out GE435.out GE435.out⟩⟩
           ·
            rw [if_neg c22] at H; have c22b0 : (x9_2 == a2) = false := beq_eq_false_iff_ne.mpr c22; have c22b1 : (x9_2 != a2) = true := bne_iff_ne.mpr c22; replace H := Option.bind_eq_some_iff.mp H; obtain ⟨t439, A230, H⟩ := H; replace H : (spec_MatchOf.j2 k2 a2 x8_2 x9_2 (rdOf ByteArray.empty l1 x27_2) l1 (l1.length : Int) x27_2 (!t439) a0_0 a0_1) = some (r1, r2) := H; have A23 := a_ A230; clear A230; have H' := a_ H; clear H; have hcz24_0 : wr.cell? ⟨gb435, 0, none⟩ = some (.int .i64 a0_0) := c_ BK435.out 0; have hcz24_1 : wr.cell? ⟨gb435, 1, none⟩ = some (.int .i64 a0_1) := c_ BK435.out 1; have hfz24_0 := blk_frozen BK435.out 0; have hfz24_1 := blk_frozen BK435.out 1
            go_wp2_with (first | (go_at_call 36; (with_reducible refine (spec_raIs.calls k2 a0_0 a0_1 (rdOf ByteArray.empty l1 x27_2) t439 _ A23.out).mono ?_); rintro e w25 ⟨rfl, hb⟩; have n0_ := bb_ BK435 hb; have n1_ := a_ (below_step (L_ HB.out GE435.out GE435.out GE435.out) hb); clear BK435; clear HB; have BK435 := n0_; have HB := n1_; clear n0_ n1_; (try clear hb); (try clear hb2); (try clear hk); (try clear hi)))
            go_meet
            case rel => exact ⟨_, (!t439), t1_, H', ⟨t49_⟩, ⟨B_ BK435.out⟩, ⟨L_ HB.out GE435.out GE435.out GE435.out⟩⟩
         case rest =>
          clear HC20; obtain ⟨kq, x44_19, rfl, HA, HJ19, BK435, HB⟩ := hcut
          cases kq with
          | zero => exact absurd HA.out (by simp [spec_MatchOf.j2])
          | succ kj19 =>
           have H := HA.out; clear HA; simp only [spec_MatchOf.j2] at H
           by_cases c26 : x44_19 = true
           ·
            subst c26; have H1 : (some ((⟨#[]⟩ : ByteArray), false)) = some (r1, r2) := by rw [if_pos rfl] at H; exact H
            clear H; have H := H1; clear H1; simp only [Option.some.injEq, Prod.mk.injEq] at H; obtain ⟨rfl, rfl⟩ := H
            go_wp2
            go_ret2
            exact ⟨by first | rfl | (simp [errW_none, errW_some] <;> rfl) | (simp [*, errW_none, errW_some] <;> rfl), by repeat (first | (with_reducible first | exact HB.out | apply below_alloc | apply pw_below_drewN | apply below_drew1 | refine below_set ?_ GE435.out) | exact HB.out)⟩
           ·
            replace c26 := Bool.eq_false_iff.mpr c26; subst c26; have H1 : ((spec_raSide.f kj19 a0_0 a0_1 (rdOf ByteArray.empty l1 x27_2)).bind fun t440 => (if t440.toList = ([97] : List UInt8) then (spec_MatchOf.l0 kj19 a2 (wrap64 (x8_2 + 1)) x9_2 l1 (l1.length : Int) (wrap64 (x27_2 + 1)) a0_0 a0_1) else (if t440.toList = ([98] : List UInt8) then (spec_MatchOf.l0 kj19 a2 x8_2 (wrap64 (x9_2 + 1)) l1 (l1.length : Int) (wrap64 (x27_2 + 1)) a0_0 a0_1) else (some ((⟨#[]⟩ : ByteArray), false))))) = some (r1, r2) := by rw [if_neg (show ¬ (false = true) by decide)] at H; exact H
            clear H; have H := H1; clear H1; replace H := Option.bind_eq_some_iff.mp H; obtain ⟨t440, A270, H⟩ := H; replace H : (if t440.toList = ([97] : List UInt8) then (spec_MatchOf.l0 kj19 a2 (wrap64 (x8_2 + 1)) x9_2 l1 (l1.length : Int) (wrap64 (x27_2 + 1)) a0_0 a0_1) else (if t440.toList = ([98] : List UInt8) then (spec_MatchOf.l0 kj19 a2 x8_2 (wrap64 (x9_2 + 1)) l1 (l1.length : Int) (wrap64 (x27_2 + 1)) a0_0 a0_1) else (some ((⟨#[]⟩ : ByteArray), false)))) = some (r1, r2) := H; have A27 := a_ A270; clear A270
            by_cases c28 : t440.toList = ([97] : List UInt8)
            ·
             rw [if_pos c28] at H; have c28b0 : (t440.toList == ([97] : List UInt8)) = true := beq_iff_eq.mpr c28; have c28b1 : (t440.toList != ([97] : List UInt8)) = false := bne_eq_false_iff_eq.mpr c28; clear c28; have H' := a_ H; clear H; have hcz29_0 : wc.cell? ⟨gb435, 0, none⟩ = some (.int .i64 a0_0) := c_ BK435.out 0; have hcz29_1 : wc.cell? ⟨gb435, 1, none⟩ = some (.int .i64 a0_1) := c_ BK435.out 1; have hfz29_0 := blk_frozen BK435.out 0; have hfz29_1 := blk_frozen BK435.out 1
             go_wp2_with (first | ((with_reducible refine gate_callee (f := 37) rfl ?_); refine goesL_ (some 47) rfl rfl Tryz.func37 t9_ rfl #[.agg #[.int .i64 a0_0, .int .i64 a0_1], .string (rdOf ByteArray.empty l1 x27_2)] rfl (by (try simp only [m1_, m2_, m3_]); first | done | rfl) ?_; (with_reducible refine (spec_raSide.calls kj19 a0_0 a0_1 (rdOf ByteArray.empty l1 x27_2) t440 _ A27.out).mono ?_); rintro e w30 ⟨rfl, hb⟩; refine ⟨_, rfl, ?_⟩; have n0_ := bb_ BK435 hb; have n1_ := a_ (below_step (L_ HB.out GE435.out GE435.out GE435.out) hb); clear BK435; clear HB; have BK435 := n0_; have HB := n1_; clear n0_ n1_; (try clear hb); (try clear hb2); (try clear hk); (try clear hi)))
             go_roundg kj19
             case measure => have := HJ3.out; have := HK2.out; have := HJ19.out; omega
             case rel => exact ⟨(wrap64 (x8_2 + 1)), (x9_2), (wrap64 (x27_2 + 1)), t1_, t1_, t1_, H', ⟨by have := HJ3.out; have := HK2.out; have := HJ19.out; omega⟩, ⟨B_ BK435.out⟩, ⟨L_ HB.out GE435.out GE435.out GE435.out⟩⟩
            ·
             rw [if_neg c28] at H; have c28b0 : (t440.toList == ([97] : List UInt8)) = false := beq_eq_false_iff_ne.mpr c28; have c28b1 : (t440.toList != ([97] : List UInt8)) = true := bne_iff_ne.mpr c28
             by_cases c31 : t440.toList = ([98] : List UInt8)
             ·
              rw [if_pos c31] at H; have c31b0 : (t440.toList == ([98] : List UInt8)) = true := beq_iff_eq.mpr c31; have c31b1 : (t440.toList != ([98] : List UInt8)) = false := bne_eq_false_iff_eq.mpr c31; clear c31; have H' := a_ H; clear H; have hcz32_0 : wc.cell? ⟨gb435, 0, none⟩ = some (.int .i64 a0_0) := c_ BK435.out 0; have hcz32_1 : wc.cell? ⟨gb435, 1, none⟩ = some (.int .i64 a0_1) := c_ BK435.out 1; have hfz32_0 := blk_frozen BK435.out 0; have hfz32_1 := blk_frozen BK435.out 1
              go_wp2_with (first | ((with_reducible refine gate_callee (f := 37) rfl ?_); refine goesL_ (some 47) rfl rfl Tryz.func37 t9_ rfl #[.agg #[.int .i64 a0_0, .int .i64 a0_1], .string (rdOf ByteArray.empty l1 x27_2)] rfl (by (try simp only [m1_, m2_, m3_]); first | done | rfl) ?_; (with_reducible refine (spec_raSide.calls kj19 a0_0 a0_1 (rdOf ByteArray.empty l1 x27_2) t440 _ A27.out).mono ?_); rintro e w33 ⟨rfl, hb⟩; refine ⟨_, rfl, ?_⟩; have n0_ := bb_ BK435 hb; have n1_ := a_ (below_step (L_ HB.out GE435.out GE435.out GE435.out) hb); clear BK435; clear HB; have BK435 := n0_; have HB := n1_; clear n0_ n1_; (try clear hb); (try clear hb2); (try clear hk); (try clear hi)))
              go_roundg kj19
              case measure => have := HJ3.out; have := HK2.out; have := HJ19.out; omega
              case rel => exact ⟨(x8_2), (wrap64 (x9_2 + 1)), (wrap64 (x27_2 + 1)), t1_, t1_, t1_, H', ⟨by have := HJ3.out; have := HK2.out; have := HJ19.out; omega⟩, ⟨B_ BK435.out⟩, ⟨L_ HB.out GE435.out GE435.out GE435.out⟩⟩
             ·
              rw [if_neg c31] at H; have c31b0 : (t440.toList == ([98] : List UInt8)) = false := beq_eq_false_iff_ne.mpr c31; have c31b1 : (t440.toList != ([98] : List UInt8)) = true := bne_iff_ne.mpr c31; simp only [Option.some.injEq, Prod.mk.injEq] at H; obtain ⟨rfl, rfl⟩ := H; have hcz34_0 : wc.cell? ⟨gb435, 0, none⟩ = some (.int .i64 a0_0) := c_ BK435.out 0; have hcz34_1 : wc.cell? ⟨gb435, 1, none⟩ = some (.int .i64 a0_1) := c_ BK435.out 1; have hfz34_0 := blk_frozen BK435.out 0; have hfz34_1 := blk_frozen BK435.out 1
              go_wp2_with (first | ((with_reducible refine gate_callee (f := 37) rfl ?_); refine goesL_ (some 47) rfl rfl Tryz.func37 t9_ rfl #[.agg #[.int .i64 a0_0, .int .i64 a0_1], .string (rdOf ByteArray.empty l1 x27_2)] rfl (by (try simp only [m1_, m2_, m3_]); first | done | rfl) ?_; (with_reducible refine (spec_raSide.calls kj19 a0_0 a0_1 (rdOf ByteArray.empty l1 x27_2) t440 _ A27.out).mono ?_); rintro e w35 ⟨rfl, hb⟩; refine ⟨_, rfl, ?_⟩; have n0_ := bb_ BK435 hb; have n1_ := a_ (below_step (L_ HB.out GE435.out GE435.out GE435.out) hb); clear BK435; clear HB; have BK435 := n0_; have HB := n1_; clear n0_ n1_; (try clear hb); (try clear hb2); (try clear hk); (try clear hi)))
              go_ret2
              exact ⟨by first | rfl | (simp [errW_none, errW_some] <;> rfl) | (simp [*, errW_none, errW_some] <;> rfl), by repeat (first | (with_reducible first | exact HB.out | apply below_alloc | apply pw_below_drewN | apply below_drew1 | refine below_set ?_ GE435.out) | exact HB.out)⟩
        ·
         rw [if_neg c19] at H
         exact absurd H t19_
       ·
        rw [if_neg c18] at H
        exact absurd H t19_
      ·
       rw [if_neg c17] at H; have c17b0 : decide (x27_2 < (l1.length : Int)) = false := decide_eq_false c17; clear c17
       by_cases c36 : a2 = x8_2
       ·
        rw [if_pos c36] at H; have c36b0 : (a2 == x8_2) = true := beq_iff_eq.mpr c36; have c36b1 : (a2 != x8_2) = false := bne_eq_false_iff_eq.mpr c36; clear c36; simp only [Option.some.injEq, Prod.mk.injEq] at H; obtain ⟨rfl, rfl⟩ := H
        go_wp2
        go_ret2
        exact ⟨by first | rfl | (simp [errW_none, errW_some] <;> rfl) | (simp [*, errW_none, errW_some] <;> rfl), by repeat (first | (with_reducible first | exact HB.out | apply below_alloc | apply pw_below_drewN | apply below_drew1 | refine below_set ?_ GE435.out) | exact HB.out)⟩
       ·
        rw [if_neg c36] at H; have c36b0 : (a2 == x8_2) = false := beq_eq_false_iff_ne.mpr c36; have c36b1 : (a2 != x8_2) = true := bne_iff_ne.mpr c36
        by_cases c37 : a2 = x9_2
        ·
         rw [if_pos c37] at H; have c37b0 : (a2 == x9_2) = true := beq_iff_eq.mpr c37; have c37b1 : (a2 != x9_2) = false := bne_eq_false_iff_eq.mpr c37; clear c37; simp only [Option.some.injEq, Prod.mk.injEq] at H; obtain ⟨rfl, rfl⟩ := H
         go_wp2
         go_ret2
         exact ⟨by first | rfl | (simp [errW_none, errW_some] <;> rfl) | (simp [*, errW_none, errW_some] <;> rfl), by repeat (first | (with_reducible first | exact HB.out | apply below_alloc | apply pw_below_drewN | apply below_drew1 | refine below_set ?_ GE435.out) | exact HB.out)⟩
        ·
         rw [if_neg c37] at H; have c37b0 : (a2 == x9_2) = false := beq_eq_false_iff_ne.mpr c37; have c37b1 : (a2 != x9_2) = true := bne_iff_ne.mpr c37; simp only [Option.some.injEq, Prod.mk.injEq] at H; obtain ⟨rfl, rfl⟩ := H
         go_wp2
         go_ret2
         exact ⟨by first | rfl | (simp [errW_none, errW_some] <;> rfl) | (simp [*, errW_none, errW_some] <;> rfl), by repeat (first | (with_reducible first | exact HB.out | apply below_alloc | apply pw_below_drewN | apply below_drew1 | refine below_set ?_ GE435.out) | exact HB.out)⟩
def spec_raTurn.l0 : Nat → ByteArray → ByteArray → Int → Option (ByteArray)
 | 0, _, _, _ => none
 | k + 1, x0, x3, x4 => if x4 < (x0.size : Int) then (if 0 ≤ x4 then (if (bt x0 x4) = 97 then (if x3.size + 1 ≤ 9223372036854775807 then (spec_raTurn.l0 k x0 (x3 ++ (⟨#[98]⟩ : ByteArray)) (wrap64 (x4 + 1))) else (none)) else (if x3.size + 1 ≤ 9223372036854775807 then (spec_raTurn.l0 k x0 (x3 ++ (⟨#[97]⟩ : ByteArray)) (wrap64 (x4 + 1))) else (none))) else (none)) else (some x3)
def spec_raTurn.f (k : Nat) (a0 : ByteArray) : Option (ByteArray) := spec_raTurn.l0 k a0 (⟨#[]⟩ : ByteArray) 0
set_option maxHeartbeats 8000000 in
set_option maxRecDepth 100000 in
theorem spec_raTurn.calls (k : Nat) (a0 : ByteArray) (r : ByteArray) (w : World) (h : spec_raTurn.f k a0 = some r) :
  Calls Tryz.prog 60 #[.string a0] w fun e w' => e = .returned (.string r) ∧ Drawn0 w w' := by
 have H : (spec_raTurn.l0 k a0 (⟨#[]⟩ : ByteArray) 0) = some r := h; clear h; have H' := a_ H; clear H
 go_enter Tryz.func60, Tryz.ntmps60
 go_wp2
 go_loopg [3, 4] k (fun kq v3 v4 w' => ∃ (x3_1 : ByteArray) (x4_1 : Int), v3 = .string x3_1 ∧ v4 = .int .i64 x4_1 ∧ Aside0 (spec_raTurn.l0 kq a0 x3_1 x4_1 = some r) ∧ Aside0 (kq ≤ k) ∧ Drawn0 w w')
 case atStart => exact ⟨((⟨#[]⟩ : ByteArray)), (0), t1_, t1_, H', ⟨Nat.le_refl _⟩, by repeat (first | exact Drawn0.refl _ | apply Drawn0.step)⟩
 case round =>
  clear H'; obtain ⟨x3_1, x4_1, rfl, rfl, HA, HK1, ⟨m1, rfl⟩⟩ := hrel
  cases gk with
  | zero => exact absurd HA.out (by simp [spec_raTurn.l0])
  | succ k1 =>
   have H := HA.out; clear HA; simp only [spec_raTurn.l0] at H
   by_cases c2 : x4_1 < (a0.size : Int)
   ·
    rw [if_pos c2] at H; have c2b0 : decide (x4_1 < (a0.size : Int)) = true := decide_eq_true c2; clear c2
    by_cases c3 : 0 ≤ x4_1
    ·
     rw [if_pos c3] at H; have c3b0 : decide (0 ≤ x4_1) = true := decide_eq_true c3; clear c3
     by_cases c5 : (bt a0 x4_1) = 97
     ·
      rw [if_pos c5] at H; have c5b0 : ((bt a0 x4_1) == 97) = true := beq_iff_eq.mpr c5; have c5b1 : ((bt a0 x4_1) != 97) = false := bne_eq_false_iff_eq.mpr c5; clear c5
      by_cases c6 : x3_1.size + 1 ≤ 9223372036854775807
      ·
       rw [if_pos c6] at H; have c6b0 := eq_true c6; have c6b1 : decide (x3_1.size + 1 ≤ 9223372036854775807) = true := decide_eq_true c6
       try have c6b2 : (9223372036854775807 < x3_1.size + 1) = False := eq_false (Nat.not_lt.2 c6)
       have H' := a_ H; clear H; have p4 : 0 ≤ (x4_1 : Int) := of_decide_eq_true t2_; have q4 : x4_1 < (a0.size : Int) := of_decide_eq_true t2_; have hx4 := bt_at a0 x4_1; replace p4 := eq_true p4; replace q4 := eq_true q4
       go_wp2
       go_roundg k1
       case measure => have := HK1.out; omega
       case rel => exact ⟨(x3_1 ++ (⟨#[98]⟩ : ByteArray)), (wrap64 (x4_1 + 1)), t1_, t1_, H', ⟨t47_⟩, by repeat (first | exact Drawn0.refl _ | apply Drawn0.step)⟩
      ·
       rw [if_neg c6] at H
       exact absurd H t19_
     ·
      rw [if_neg c5] at H; have c5b0 : ((bt a0 x4_1) == 97) = false := beq_eq_false_iff_ne.mpr c5; have c5b1 : ((bt a0 x4_1) != 97) = true := bne_iff_ne.mpr c5
      by_cases c7 : x3_1.size + 1 ≤ 9223372036854775807
      ·
       rw [if_pos c7] at H; have c7b0 := eq_true c7; have c7b1 : decide (x3_1.size + 1 ≤ 9223372036854775807) = true := decide_eq_true c7
       try have c7b2 : (9223372036854775807 < x3_1.size + 1) = False := eq_false (Nat.not_lt.2 c7)
       have H' := a_ H; clear H; have p4 : 0 ≤ (x4_1 : Int) := of_decide_eq_true t2_; have q4 : x4_1 < (a0.size : Int) := of_decide_eq_true t2_; have hx4 := bt_at a0 x4_1; replace p4 := eq_true p4; replace q4 := eq_true q4
       go_wp2
       go_roundg k1
       case measure => have := HK1.out; omega
       case rel => exact ⟨(x3_1 ++ (⟨#[97]⟩ : ByteArray)), (wrap64 (x4_1 + 1)), t1_, t1_, H', ⟨t47_⟩, by repeat (first | exact Drawn0.refl _ | apply Drawn0.step)⟩
      ·
       rw [if_neg c7] at H
       exact absurd H t19_
    ·
     rw [if_neg c3] at H
     exact absurd H t19_
   ·
    rw [if_neg c2] at H; have c2b0 : decide (x4_1 < (a0.size : Int)) = false := decide_eq_false c2; clear c2; obtain rfl := Option.some.inj H
    go_wp2
    go_ret
    exact ⟨by first | rfl | (simp; done) | (simp [*]; done), by repeat (first | exact Drawn0.refl _ | apply Drawn0.step)⟩
def spec_TurnPlay.f (k : Nat) (a0 : ByteArray) : Option (ByteArray × Bool) := (spec_raPoints.f k a0).bind fun t441 => (if t441 = true then ((spec_raTurn.f k a0).bind fun t442 => (some (t442, true))) else (some ((⟨#[]⟩ : ByteArray), false)))
set_option maxHeartbeats 8000000 in
set_option maxRecDepth 100000 in
theorem spec_TurnPlay.calls (k : Nat) (a0 : ByteArray) (r1 : ByteArray) (r2 : Bool) (w : World) (h : spec_TurnPlay.f k a0 = some (r1, r2)) :
  Calls Tryz.prog 33 #[.string a0] w fun e w' => e = .returned (.tuple #[.string r1, .bool r2]) ∧ Drawn0 w w' := by
 have H : ((spec_raPoints.f k a0).bind fun t441 => (if t441 = true then ((spec_raTurn.f k a0).bind fun t442 => (some (t442, true))) else (some ((⟨#[]⟩ : ByteArray), false)))) = some (r1, r2) := h; clear h; replace H := Option.bind_eq_some_iff.mp H; obtain ⟨t441, A20, H⟩ := H; replace H : (if t441 = true then ((spec_raTurn.f k a0).bind fun t442 => (some (t442, true))) else (some ((⟨#[]⟩ : ByteArray), false))) = some (r1, r2) := H; have A2 := a_ A20; clear A20
 by_cases c3 : t441 = true
 ·
  subst c3; have H1 : ((spec_raTurn.f k a0).bind fun t442 => (some (t442, true))) = some (r1, r2) := by rw [if_pos rfl] at H; exact H
  clear H; have H := H1; clear H1; replace H := Option.bind_eq_some_iff.mp H; obtain ⟨t442, A40, H⟩ := H; replace H : (some (t442, true)) = some (r1, r2) := H; have A4 := a_ A40; clear A40; simp only [Option.some.injEq, Prod.mk.injEq] at H; obtain ⟨rfl, rfl⟩ := H
  go_enter Tryz.func33, Tryz.ntmps33
  go_wp2_with (first | ((with_reducible refine gate_callee (f := 45) rfl ?_); refine goesL_ (some 5) rfl rfl Tryz.func45 t9_ rfl #[.string a0] rfl (by (try simp only [m1_, m2_, m3_]); first | done | rfl) ?_; (with_reducible refine (spec_raPoints.calls k a0 true _ A2.out).mono ?_); rintro e w' ⟨rfl, ⟨nd, rfl⟩⟩; refine ⟨_, rfl, ?_⟩) | ((with_reducible refine gate_callee (f := 60) rfl ?_); refine goesL_ (some 8) rfl rfl Tryz.func60 t9_ rfl #[.string a0] rfl (by (try simp only [m1_, m2_, m3_]); first | done | rfl) ?_; (with_reducible refine (spec_raTurn.calls k a0 t442 _ A4.out).mono ?_); rintro e w' ⟨rfl, ⟨nd, rfl⟩⟩; refine ⟨_, rfl, ?_⟩))
  go_ret2
  exact ⟨by first | rfl | (simp; done) | (simp [*]; done), by repeat (first | exact Drawn0.refl _ | apply Drawn0.step)⟩
 ·
  replace c3 := Bool.eq_false_iff.mpr c3; subst c3; have H1 : (some ((⟨#[]⟩ : ByteArray), false)) = some (r1, r2) := by rw [if_neg (show ¬ (false = true) by decide)] at H; exact H
  clear H; have H := H1; clear H1; simp only [Option.some.injEq, Prod.mk.injEq] at H; obtain ⟨rfl, rfl⟩ := H
  go_enter Tryz.func33, Tryz.ntmps33
  go_wp2_with (first | ((with_reducible refine gate_callee (f := 45) rfl ?_); refine goesL_ (some 5) rfl rfl Tryz.func45 t9_ rfl #[.string a0] rfl (by (try simp only [m1_, m2_, m3_]); first | done | rfl) ?_; (with_reducible refine (spec_raPoints.calls k a0 false _ A2.out).mono ?_); rintro e w' ⟨rfl, ⟨nd, rfl⟩⟩; refine ⟨_, rfl, ?_⟩))
  go_ret2
  exact ⟨by first | rfl | (simp; done) | (simp [*]; done), by repeat (first | exact Drawn0.refl _ | apply Drawn0.step)⟩
end Go.Proofs.YtiknaldhjbdnbaaGreatDoor.QFnRacesWon
