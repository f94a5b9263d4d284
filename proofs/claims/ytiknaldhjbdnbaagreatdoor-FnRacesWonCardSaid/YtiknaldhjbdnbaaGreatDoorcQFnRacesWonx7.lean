import Derived.Test.YtiknaldhjbdnbaaGreatDoorcQFnRacesWonx0
import Derived.Test.YtiknaldhjbdnbaaGreatDoorcQFnRacesWonx1
import Derived.Test.YtiknaldhjbdnbaaGreatDoorcQFnRacesWonx2
import Derived.Test.YtiknaldhjbdnbaaGreatDoorcQFnRacesWonx3
import Derived.Test.YtiknaldhjbdnbaaGreatDoorcGPoints
import Derived.Test.YtiknaldhjbdnbaaGreatDoorcGQ
namespace Go.Proofs.YtiknaldhjbdnbaaGreatDoor.QFnRacesWon
open Go.RowKit Go.Proofs.YtiknaldhjbdnbaaGreatDoorW.PrintWords Go.Proofs.YtiknaldhjbdnbaaGreatDoorW.PrintLast Go.Proofs.YtiknaldhjbdnbaaGreatDoorW.PrintMore Go.Proofs.YtiknaldhjbdnbaaGreatDoor.Sh
attribute [local go_sem] max2_int min2_int max_two min_two max_three min_three max_four min_four
set_option linter.unusedVariables false
set_option linter.unusedSimpArgs false
mutual
def impl_ServersOf.j0 : Nat → ByteArray → Int → Bool → Option (ByteArray × Bool)
 | 0, _, _, _ => none
 | k + 1, x0, x1, x15 => if x15 = true then (some ((⟨#[]⟩ : ByteArray), false)) else (impl_ServersOf.l0 k x1 (([] : List Int)) (x0.size : Int) 0)
def impl_ServersOf.l0 : Nat → Int → List Int → Int → Int → Option (ByteArray × Bool)
 | 0, _, _, _, _ => none
 | k + 1, x1, x6, x18, x19 => if x19 < x18 then (if x1 = 0 then (none) else (if 0 ≤ (Int.tmod (wrap64 (Int.tdiv x19 x1)) 2) then (if (Int.tmod (wrap64 (Int.tdiv x19 x1)) 2) < 2 then (if x6.length < 140737488355328 then (impl_ServersOf.l0 k x1 (x6 ++ [bt (⟨#[97, 98]⟩ : ByteArray) (Int.tmod (wrap64 (Int.tdiv x19 x1)) 2)]) x18 (wrap64 (x19 + 1))) else (none)) else (none)) else (none))) else (some (strOfNums x6, true))
end
def impl_ServersOf.f (k : Nat) (a0 : ByteArray) (a1 : Int) : Option (ByteArray × Bool) := (impl_isPoints.f a0 100).bind fun t366 => (if t366 = true then ((impl_within.f a1 1 10).bind fun t367 => (impl_ServersOf.j0 k a0 a1 (!t367))) else (impl_ServersOf.j0 k a0 a1 true))
set_option maxHeartbeats 8000000 in
set_option maxRecDepth 100000 in
theorem impl_ServersOf.calls (k : Nat) (a0 : ByteArray) (a1 : Int) (r1 : ByteArray) (r2 : Bool) (w : World) (h : impl_ServersOf.f k a0 a1 = some (r1, r2)) :
  Calls Tryz.prog 25 #[.string a0, .int .i64 a1] w fun e w' => e = .returned (.tuple #[.string r1, .bool r2]) ∧ Below w.heap.size w w' := by
 have HB := a_ (Below.refl w.heap.size w); have H : ((impl_isPoints.f a0 100).bind fun t366 => (if t366 = true then ((impl_within.f a1 1 10).bind fun t367 => (impl_ServersOf.j0 k a0 a1 (!t367))) else (impl_ServersOf.j0 k a0 a1 true))) = some (r1, r2) := h; clear h; have HC3 := a_ H; clear H
 go_enter Tryz.func25, Tryz.ntmps25
 go_upto_region 1 with (fail)
 go_cut [15] (fun v15 wc => ∃ (kq : Nat) (x15_2 : Bool), v15 = .bool x15_2 ∧ Aside0 (impl_ServersOf.j0 kq a0 a1 x15_2 = some (r1, r2)) ∧ Aside0 (kq ≤ k) ∧ Aside0 (Below w.heap.size w wc))
 case first =>
  have H := HC3.out; clear HC3; replace H := Option.bind_eq_some_iff.mp H; obtain ⟨t366, A40, H⟩ := H; replace H : (if t366 = true then ((impl_within.f a1 1 10).bind fun t367 => (impl_ServersOf.j0 k a0 a1 (!t367))) else (impl_ServersOf.j0 k a0 a1 true)) = some (r1, r2) := H; have A4 := a_ A40; clear A40
  by_cases c5 : t366 = true
  ·
   subst c5; have H1 : ((impl_within.f a1 1 10).bind fun t367 => (impl_ServersOf.j0 k a0 a1 (!t367))) = some (r1, r2) := by rw [if_pos rfl] at H; exact H
   clear H; have H := H1; clear H1; replace H := Option.bind_eq_some_iff.mp H; obtain ⟨t367, A60, H⟩ := H; replace H : (impl_ServersOf.j0 k a0 a1 (!t367)) = some (r1, r2) := H; have A6 := a_ A60; clear A60; have H' := a_ H; clear H
   go_wp2_with (first | ((with_reducible refine gate_callee (f := 42) rfl ?_); refine goesL_ (some 9) rfl rfl Tryz.func42 t9_ rfl #[.string a0, .int .i64 100] rfl (by (try simp only [m1_, m2_, m3_]); first | done | rfl) ?_; (with_reducible refine (impl_isPoints.calls a0 100 true _ A4.out).mono ?_); rintro e w7 ⟨rfl, hb⟩; refine ⟨_, rfl, ?_⟩; have n0_ := a_ (below_step (L_ HB.out (Nat.le_refl _) (Nat.le_refl _) (Nat.le_refl _)) hb); clear HB; have HB := n0_; clear n0_; (try clear hb); (try clear hb2); (try clear hk); (try clear hi)) | (go_at_call 46; (with_reducible refine (impl_within.calls a1 1 10 t367 _ A6.out).mono ?_); rintro e w' ⟨rfl, ⟨nd, rfl⟩⟩))
   go_meet
   case rel => exact ⟨_, (!t367), t1_, H', ⟨t16_⟩, ⟨L_ HB.out (Nat.le_refl _) (Nat.le_refl _) (Nat.le_refl _)⟩⟩
  ·
   replace c5 := Bool.eq_false_iff.mpr c5; subst c5; have H1 : (impl_ServersOf.j0 k a0 a1 true) = some (r1, r2) := by rw [if_neg (show ¬ (false = true) by decide)] at H; exact H
   clear H; have H := H1; clear H1; have H' := a_ H; clear H
   go_wp2_with (first | ((with_reducible refine gate_callee (f := 42) rfl ?_); refine goesL_ (some 9) rfl rfl Tryz.func42 t9_ rfl #[.string a0, .int .i64 100] rfl (by (try simp only [m1_, m2_, m3_]); first | done | rfl) ?_; (with_reducible refine (impl_isPoints.calls a0 100 false _ A4.out).mono ?_); rintro e w8 ⟨rfl, hb⟩; refine ⟨_, rfl, ?_⟩; have n0_ := a_ (below_step (L_ HB.out (Nat.le_refl _) (Nat.le_refl _) (Nat.le_refl _)) hb); clear HB; have HB := n0_; clear n0_; (try clear hb); (try clear hb2); (try clear hk); (try clear hi)))
   go_meet
   case rel => exact ⟨_, (true), t1_, H', ⟨t16_⟩, ⟨L_ HB.out (Nat.le_refl _) (Nat.le_refl _) (Nat.le_refl _)⟩⟩
 case rest =>
  clear HC3; obtain ⟨kq, x15_2, rfl, HA, HJ2, HB⟩ := hcut
  cases kq with
  | zero => exact absurd HA.out (by simp [impl_ServersOf.j0])
  | succ kj2 =>
   have H := HA.out; clear HA; simp only [impl_ServersOf.j0] at H
   by_cases c9 : x15_2 = true
   ·
    subst c9; have H1 : (some ((⟨#[]⟩ : ByteArray), false)) = some (r1, r2) := by rw [if_pos rfl] at H; exact H
    clear H; have H := H1; clear H1; simp only [Option.some.injEq, Prod.mk.injEq] at H; obtain ⟨rfl, rfl⟩ := H
    go_wp2
    go_ret2
    exact ⟨by first | rfl | (simp [errW_none, errW_some] <;> rfl) | (simp [*, errW_none, errW_some] <;> rfl), by repeat (first | (with_reducible first | exact HB.out | apply below_alloc | apply pw_below_drewN | apply below_drew1) | exact HB.out)⟩
   ·
    replace c9 := Bool.eq_false_iff.mpr c9; subst c9; have H1 : (impl_ServersOf.l0 kj2 a1 (([] : List Int)) (a0.size : Int) 0) = some (r1, r2) := by rw [if_neg (show ¬ (false = true) by decide)] at H; exact H
    clear H; have H := H1; clear H1; obtain ⟨y368, hy368⟩ : ∃ y_ : List Int, y_ = (([] : List Int)) := ⟨_, rfl⟩; replace H : (impl_ServersOf.l0 kj2 a1 y368 (a0.size : Int) 0) = some (r1, r2) := by first | (rw [hy368]; with_reducible exact H) | (have H2_ := (Option.bind_some _ _).symm.trans H; rw [hy368]; with_reducible exact H2_) | (have H2_ := (Option.bind_some _ _).symm.trans H; with_reducible exact H2_) | with_reducible exact H | (rw [hy368]; exact H) | exact H
    have Ny368 := a_ hy368; clear hy368; have H' := a_ H; clear H
    go_wp2_with (first | ((with_reducible refine gate_dst (N := 16) rfl ?_); refine Kd.R_lit (Kd.int .u8) _ 5 ?hg (N := 16) ?hd (xs := ([] : List Int)) (inner := []) (ok := fun _ => True) (okp := fun _ => True) ?hr ?hp (fun _ hk => hk) trivial (Below.refl _ _) (Nat.le_refl _) t19_ ?_; (case hd => rfl); (case hg => rfl); (case hr => first | (go_simp; done) | (go_simp; rfl)); (case hp => exact (Reps.none _ _)); intro v369 w10 ho11 hb hg_ hnew_; clear hg_ hnew_; (first | rw [← Ny368.out] at ho11 | (simp only [Int.reduceToNat] at ho11; rw [← Ny368.out] at ho11)); have n0_ := a_ (Kd.R_lower ho11 (below_size (L_ HB.out (Nat.le_refl _) (Nat.le_refl _) (Nat.le_refl _)))); have n1_ := a_ (below_step (L_ HB.out (Nat.le_refl _) (Nat.le_refl _) (Nat.le_refl _)) hb); clear HB; have HO370 := n0_; have HB := n1_; clear n0_ n1_; clear hb ho11))
    go_loopg [6, 19] kj2 (fun kq v6 v19 w' => ∃ (x6_2 : List Int) (x19_2 : Int), v19 = .int .i64 x19_2 ∧ Aside0 (impl_ServersOf.l0 kq a1 x6_2 (a0.size : Int) x19_2 = some (r1, r2)) ∧ Aside0 (kq ≤ kj2) ∧ Aside0 (Kd.R (Kd.int .u8) 5 w' w.heap.size (fun _ => True) v6 x6_2) ∧ Aside0 (Below w.heap.size w w'))
    case atStart => exact ⟨(y368), (0), t1_, H', ⟨Nat.le_refl _⟩, ⟨R_ HO370.out⟩, ⟨L_ HB.out (Nat.le_refl _) (Nat.le_refl _) (Nat.le_refl _)⟩⟩
    case round =>
     clear H'; obtain ⟨x6_2, x19_2, rfl, HA, HK2, HO_6, HB⟩ := hrel
     cases gk with
     | zero => exact absurd HA.out (by simp [impl_ServersOf.l0])
     | succ k2 =>
      have H := HA.out; clear HA; simp only [impl_ServersOf.l0] at H
      by_cases c12 : x19_2 < (a0.size : Int)
      ·
       rw [if_pos c12] at H; have c12b0 : decide (x19_2 < (a0.size : Int)) = true := decide_eq_true c12; clear c12
       by_cases c13 : a1 = 0
       ·
        rw [if_pos c13] at H
        exact absurd H t19_
       ·
        rw [if_neg c13] at H; have c13b0 : (a1 == 0) = false := beq_eq_false_iff_ne.mpr c13; have c13b1 : (a1 != 0) = true := bne_iff_ne.mpr c13; obtain ⟨ji14, hji14⟩ : ∃ j_ : Int, (Int.tmod (wrap64 (Int.tdiv x19_2 a1)) 2) = j_ := ⟨_, rfl⟩; replace H : (if 0 ≤ (ji14) then (if (ji14) < 2 then (if x6_2.length < 140737488355328 then (impl_ServersOf.l0 k2 a1 (x6_2 ++ [bt (⟨#[97, 98]⟩ : ByteArray) (ji14)]) (a0.size : Int) (wrap64 (x19_2 + 1))) else (none)) else (none)) else (none)) = some (r1, r2) := by first | (rw [hji14] at H; exact H) | (simp only [hji14] at H ⊢; exact H)
        by_cases c15 : 0 ≤ (ji14)
        ·
         rw [if_pos c15] at H; have c15b0 : decide (0 ≤ (ji14)) = true := decide_eq_true c15; clear c15
         by_cases c16 : (ji14) < 2
         ·
          rw [if_pos c16] at H; have c16b0 : decide ((ji14) < 2) = true := decide_eq_true c16; clear c16
          by_cases c18 : x6_2.length < 140737488355328
          ·
           rw [if_pos c18] at H; have LMc18 := a_ c18; clear c18; obtain ⟨y371, hy371⟩ : ∃ y_ : List Int, y_ = (x6_2 ++ [bt (⟨#[97, 98]⟩ : ByteArray) (ji14)]) := ⟨_, rfl⟩; replace H : (impl_ServersOf.l0 k2 a1 y371 (a0.size : Int) (wrap64 (x19_2 + 1))) = some (r1, r2) := by first | (rw [hy371]; with_reducible exact H) | (have H2_ := (Option.bind_some _ _).symm.trans H; rw [hy371]; with_reducible exact H2_) | (have H2_ := (Option.bind_some _ _).symm.trans H; with_reducible exact H2_) | with_reducible exact H | (rw [hy371]; exact H) | exact H
           have Ny371 := a_ hy371; clear hy371; have H' := a_ H; clear H; have p17 : 0 ≤ ((ji14) : Int) := of_decide_eq_true t2_; have q17 : (ji14) < (2 : Int) := of_decide_eq_true t2_; have hx17 := bt_at (⟨#[97, 98]⟩ : ByteArray) (ji14); replace p17 := eq_true p17; replace q17 := eq_true q17
           go_wp2_with (first | ((with_reducible refine gate_builtin (b := .append) (xs := #[.tmp 22, .tmp 28]) rfl ?_); at_builtin; refine Kd.R_append (Kd.int .u8) (w0 := w) w.heap.size rfl (.tmp 22) (.tmp 28) 22 5 (.int .u8 0) 1 rfl Tryz.underlying22 info5 rfl t40_ (by omega) u6 x6_2 (bt (⟨#[97, 98]⟩ : ByteArray) (ji14)) [.int .u8 (bt (⟨#[97, 98]⟩ : ByteArray) (ji14))] (fun _ => True) (fun _ => False) rfl rfl ?aP (fun _ hk => hk.elim) ?aF ?aO ?aB ?aS ?aL ?_; (case aP => exact rfl); (case aB => exact (L_ HB.out (Nat.le_refl _) (Nat.le_refl _) (Nat.le_refl _))); (case aF => exact (fun _ _ => trivial)); (case aO => exact (R_ HO_6.out)); (case aS => exact (below_size (L_ HB.out (Nat.le_refl _) (Nat.le_refl _) (Nat.le_refl _)))); (case aL => have := LMc18.out; omega); intro v372 w19 ho hb hg hat; rw [← Ny371.out] at ho; have n0_ := a_ (hb); have n1_ := a_ (ho); clear HB; clear HO_6; have HB := n0_; have HO373 := n1_; clear n0_ n1_; clear ho hb hg hat))
           go_roundg k2
           case measure => have := HJ2.out; have := HK2.out; omega
           case rel => exact ⟨(y371), (wrap64 (x19_2 + 1)), t1_, H', ⟨t44_⟩, ⟨R_ HO373.out⟩, ⟨L_ HB.out (Nat.le_refl _) (Nat.le_refl _) (Nat.le_refl _)⟩⟩
          ·
           rw [if_neg c18] at H
           exact absurd H t19_
         ·
          rw [if_neg c16] at H
          exact absurd H t19_
        ·
         rw [if_neg c15] at H
         exact absurd H t19_
      ·
       rw [if_neg c12] at H; have c12b0 : decide (x19_2 < (a0.size : Int)) = false := decide_eq_false c12; clear c12; simp only [Option.some.injEq, Prod.mk.injEq] at H; obtain ⟨rfl, rfl⟩ := H; have hcv20 := own_string (P := Tryz.prog) Tryz.underlying22 Tryz.underlying5 Tryz.underlying9 (Kd.own_of_R HO_6.out)
       go_wp2
       go_ret2
       exact ⟨by first | rfl | (simp [errW_none, errW_some] <;> rfl) | (simp [*, errW_none, errW_some] <;> rfl), by repeat (first | (with_reducible first | exact HB.out | apply below_alloc | apply pw_below_drewN | apply below_drew1) | exact HB.out)⟩
def spec_raServers.l0 : Nat → ByteArray → Int → ByteArray → Int → Option (ByteArray)
 | 0, _, _, _, _ => none
 | k + 1, x0, x1, x5, x6 => if x6 < (x0.size : Int) then (if x1 = 0 then (none) else (if 0 ≤ (Int.tmod (wrap64 (Int.tdiv x6 x1)) 2) then (if (Int.tmod (wrap64 (Int.tdiv x6 x1)) 2) ≤ (wrap64 ((Int.tmod (wrap64 (Int.tdiv x6 x1)) 2) + 1)) then (if (wrap64 ((Int.tmod (wrap64 (Int.tdiv x6 x1)) 2) + 1)) ≤ 2 then (if x5.size + ((⟨#[97, 98]⟩ : ByteArray).extract ((Int.tmod (wrap64 (Int.tdiv x6 x1)) 2) : Int).toNat ((wrap64 ((Int.tmod (wrap64 (Int.tdiv x6 x1)) 2) + 1)) : Int).toNat).size ≤ 9223372036854775807 then (spec_raServers.l0 k x0 x1 (x5 ++ ((⟨#[97, 98]⟩ : ByteArray).extract ((Int.tmod (wrap64 (Int.tdiv x6 x1)) 2) : Int).toNat ((wrap64 ((Int.tmod (wrap64 (Int.tdiv x6 x1)) 2) + 1)) : Int).toNat)) (wrap64 (x6 + 1))) else (none)) else (none)) else (none)) else (none))) else (some x5)
def spec_raServers.f (k : Nat) (a0 : ByteArray) (a1 : Int) : Option (ByteArray) := spec_raServers.l0 k a0 a1 (⟨#[]⟩ : ByteArray) 0
set_option maxHeartbeats 8000000 in
set_option maxRecDepth 100000 in
theorem spec_raServers.calls (k : Nat) (a0 : ByteArray) (a1 : Int) (r : ByteArray) (w : World) (h : spec_raServers.f k a0 a1 = some r) :
  Calls Tryz.prog 52 #[.string a0, .int .i64 a1] w fun e w' => e = .returned (.string r) ∧ Drawn0 w w' := by
 have H : (spec_raServers.l0 k a0 a1 (⟨#[]⟩ : ByteArray) 0) = some r := h; clear h; have H' := a_ H; clear H
 go_enter Tryz.func52, Tryz.ntmps52
 go_wp2
 go_loopg [5, 6] k (fun kq v5 v6 w' => ∃ (x5_1 : ByteArray) (x6_1 : Int), v5 = .string x5_1 ∧ v6 = .int .i64 x6_1 ∧ Aside0 (spec_raServers.l0 kq a0 a1 x5_1 x6_1 = some r) ∧ Aside0 (kq ≤ k) ∧ Drawn0 w w')
 case atStart => exact ⟨((⟨#[]⟩ : ByteArray)), (0), t1_, t1_, H', ⟨Nat.le_refl _⟩, by repeat (first | exact Drawn0.refl _ | apply Drawn0.step)⟩
 case round =>
  clear H'; obtain ⟨x5_1, x6_1, rfl, rfl, HA, HK1, ⟨m1, rfl⟩⟩ := hrel
  cases gk with
  | zero => exact absurd HA.out (by simp [spec_raServers.l0])
  | succ k1 =>
   have H := HA.out; clear HA; simp only [spec_raServers.l0] at H
   by_cases c3 : x6_1 < (a0.size : Int)
   ·
    rw [if_pos c3] at H; have c3b0 : decide (x6_1 < (a0.size : Int)) = true := decide_eq_true c3; clear c3
    by_cases c4 : a1 = 0
    ·
     rw [if_pos c4] at H
     exact absurd H t19_
    ·
     rw [if_neg c4] at H; have c4b0 : (a1 == 0) = false := beq_eq_false_iff_ne.mpr c4; have c4b1 : (a1 != 0) = true := bne_iff_ne.mpr c4; obtain ⟨ji5, hji5⟩ : ∃ j_ : Int, (Int.tmod (wrap64 (Int.tdiv x6_1 a1)) 2) = j_ := ⟨_, rfl⟩; replace H : (if 0 ≤ (ji5) then (if (ji5) ≤ (wrap64 ((ji5) + 1)) then (if (wrap64 ((ji5) + 1)) ≤ 2 then (if x5_1.size + ((⟨#[97, 98]⟩ : ByteArray).extract ((ji5) : Int).toNat ((wrap64 ((ji5) + 1)) : Int).toNat).size ≤ 9223372036854775807 then (spec_raServers.l0 k1 a0 a1 (x5_1 ++ ((⟨#[97, 98]⟩ : ByteArray).extract ((ji5) : Int).toNat ((wrap64 ((ji5) + 1)) : Int).toNat)) (wrap64 (x6_1 + 1))) else (none)) else (none)) else (none)) else (none)) = some r := by first | (rw [hji5] at H; exact H) | (simp only [hji5] at H ⊢; exact H)
     by_cases c6 : 0 ≤ (ji5)
     ·
      rw [if_pos c6] at H; have c6b0 := eq_true c6; have c6b1 : decide (0 ≤ (ji5)) = true := decide_eq_true c6; clear c6
      by_cases c7 : (ji5) ≤ (wrap64 ((ji5) + 1))
      ·
       rw [if_pos c7] at H; have c7b0 := eq_true c7; have c7b1 : decide ((ji5) ≤ (wrap64 ((ji5) + 1))) = true := decide_eq_true c7
       by_cases c8 : (wrap64 ((ji5) + 1)) ≤ 2
       ·
        rw [if_pos c8] at H; have c8b0 := eq_true c8; have c8b1 : decide ((wrap64 ((ji5) + 1)) ≤ 2) = true := decide_eq_true c8
        by_cases c9 : x5_1.size + ((⟨#[97, 98]⟩ : ByteArray).extract ((ji5) : Int).toNat ((wrap64 ((ji5) + 1)) : Int).toNat).size ≤ 9223372036854775807
        ·
         rw [if_pos c9] at H; have c9b0 := eq_true c9; have c9b1 : decide (x5_1.size + ((⟨#[97, 98]⟩ : ByteArray).extract ((ji5) : Int).toNat ((wrap64 ((ji5) + 1)) : Int).toNat).size ≤ 9223372036854775807) = true := decide_eq_true c9
         try have c9b2 : (9223372036854775807 < x5_1.size + ((⟨#[97, 98]⟩ : ByteArray).extract ((ji5) : Int).toNat ((wrap64 ((ji5) + 1)) : Int).toNat).size) = False := eq_false (Nat.not_lt.2 c9)
         have H' := a_ H; clear H
         go_wp2
         go_roundg k1
         case measure => have := HK1.out; omega
         case rel => exact ⟨(x5_1 ++ ((⟨#[97, 98]⟩ : ByteArray).extract ((ji5) : Int).toNat ((wrap64 ((ji5) + 1)) : Int).toNat)), (wrap64 (x6_1 + 1)), (by first | rfl | (simp; done) | (simp only [← hji5] <;> (first | rfl | simp)) | (simp [*]; done)), t1_, H', ⟨t47_⟩, by repeat (first | exact Drawn0.refl _ | apply Drawn0.step)⟩
        ·
         rw [if_neg c9] at H
         exact absurd H t19_
       ·
        rw [if_neg c8] at H
        exact absurd H t19_
      ·
       rw [if_neg c7] at H
       exact absurd H t19_
     ·
      rw [if_neg c6] at H
      exact absurd H t19_
   ·
    rw [if_neg c3] at H; have c3b0 : decide (x6_1 < (a0.size : Int)) = false := decide_eq_false c3; clear c3; obtain rfl := Option.some.inj H
    go_wp2
    go_ret
    exact ⟨by first | rfl | (simp; done) | (simp [*]; done), by repeat (first | exact Drawn0.refl _ | apply Drawn0.step)⟩
def spec_ServersOf.f (k : Nat) (a0 : ByteArray) (a1 : Int) : Option (ByteArray × Bool) := (spec_raPoints.f k a0).bind fun t374 => (if t374 = true then ((spec_l1In.f a1 1 10).bind fun t375 => (if t375 = true then ((spec_raServers.f k a0 a1).bind fun t376 => (some (t376, true))) else (some ((⟨#[]⟩ : ByteArray), false)))) else (some ((⟨#[]⟩ : ByteArray), false)))
set_option maxHeartbeats 8000000 in
set_option maxRecDepth 100000 in
theorem spec_ServersOf.calls (k : Nat) (a0 : ByteArray) (a1 : Int) (r1 : ByteArray) (r2 : Bool) (w : World) (h : spec_ServersOf.f k a0 a1 = some (r1, r2)) :
  Calls Tryz.prog 26 #[.string a0, .int .i64 a1] w fun e w' => e = .returned (.tuple #[.string r1, .bool r2]) ∧ Drawn0 w w' := by
 have H : ((spec_raPoints.f k a0).bind fun t374 => (if t374 = true then ((spec_l1In.f a1 1 10).bind fun t375 => (if t375 = true then ((spec_raServers.f k a0 a1).bind fun t376 => (some (t376, true))) else (some ((⟨#[]⟩ : ByteArray), false)))) else (some ((⟨#[]⟩ : ByteArray), false)))) = some (r1, r2) := h; clear h; replace H := Option.bind_eq_some_iff.mp H; obtain ⟨t374, A30, H⟩ := H; replace H : (if t374 = true then ((spec_l1In.f a1 1 10).bind fun t375 => (if t375 = true then ((spec_raServers.f k a0 a1).bind fun t376 => (some (t376, true))) else (some ((⟨#[]⟩ : ByteArray), false)))) else (some ((⟨#[]⟩ : ByteArray), false))) = some (r1, r2) := H; have A3 := a_ A30; clear A30
 by_cases c4 : t374 = true
 ·
  subst c4; have H1 : ((spec_l1In.f a1 1 10).bind fun t375 => (if t375 = true then ((spec_raServers.f k a0 a1).bind fun t376 => (some (t376, true))) else (some ((⟨#[]⟩ : ByteArray), false)))) = some (r1, r2) := by rw [if_pos rfl] at H; exact H
  clear H; have H := H1; clear H1; replace H := Option.bind_eq_some_iff.mp H; obtain ⟨t375, A50, H⟩ := H; replace H : (if t375 = true then ((spec_raServers.f k a0 a1).bind fun t376 => (some (t376, true))) else (some ((⟨#[]⟩ : ByteArray), false))) = some (r1, r2) := H; have A5 := a_ A50; clear A50
  by_cases c6 : t375 = true
  ·
   subst c6; have H1 : ((spec_raServers.f k a0 a1).bind fun t376 => (some (t376, true))) = some (r1, r2) := by rw [if_pos rfl] at H; exact H
   clear H; have H := H1; clear H1; replace H := Option.bind_eq_some_iff.mp H; obtain ⟨t376, A70, H⟩ := H; replace H : (some (t376, true)) = some (r1, r2) := H; have A7 := a_ A70; clear A70; simp only [Option.some.injEq, Prod.mk.injEq] at H; obtain ⟨rfl, rfl⟩ := H
   go_enter Tryz.func26, Tryz.ntmps26
   go_wp2_with (first | ((with_reducible refine gate_callee (f := 45) rfl ?_); refine goesL_ (some 7) rfl rfl Tryz.func45 t9_ rfl #[.string a0] rfl (by (try simp only [m1_, m2_, m3_]); first | done | rfl) ?_; (with_reducible refine (spec_raPoints.calls k a0 true _ A3.out).mono ?_); rintro e w' ⟨rfl, ⟨nd, rfl⟩⟩; refine ⟨_, rfl, ?_⟩) | (go_at_call 51; (with_reducible refine (spec_l1In.calls a1 1 10 true _ A5.out).mono ?_); rintro e w' ⟨rfl, ⟨nd, rfl⟩⟩) | ((with_reducible refine gate_callee (f := 52) rfl ?_); refine goesL_ (some 16) rfl rfl Tryz.func52 t9_ rfl #[.string a0, .int .i64 a1] rfl (by (try simp only [m1_, m2_, m3_]); first | done | rfl) ?_; (with_reducible refine (spec_raServers.calls k a0 a1 t376 _ A7.out).mono ?_); rintro e w' ⟨rfl, ⟨nd, rfl⟩⟩; refine ⟨_, rfl, ?_⟩))
   go_ret2
   exact ⟨by first | rfl | (simp; done) | (simp [*]; done), by repeat (first | exact Drawn0.refl _ | apply Drawn0.step)⟩
  ·
   replace c6 := Bool.eq_false_iff.mpr c6; subst c6; have H1 : (some ((⟨#[]⟩ : ByteArray), false)) = some (r1, r2) := by rw [if_neg (show ¬ (false = true) by decide)] at H; exact H
   clear H; have H := H1; clear H1; simp only [Option.some.injEq, Prod.mk.injEq] at H; obtain ⟨rfl, rfl⟩ := H
   go_enter Tryz.func26, Tryz.ntmps26
   go_wp2_with (first | ((with_reducible refine gate_callee (f := 45) rfl ?_); refine goesL_ (some 7) rfl rfl Tryz.func45 t9_ rfl #[.string a0] rfl (by (try simp only [m1_, m2_, m3_]); first | done | rfl) ?_; (with_reducible refine (spec_raPoints.calls k a0 true _ A3.out).mono ?_); rintro e w' ⟨rfl, ⟨nd, rfl⟩⟩; refine ⟨_, rfl, ?_⟩) | (go_at_call 51; (with_reducible refine (spec_l1In.calls a1 1 10 false _ A5.out).mono ?_); rintro e w' ⟨rfl, ⟨nd, rfl⟩⟩))
   go_ret2
   exact ⟨by first | rfl | (simp; done) | (simp [*]; done), by repeat (first | exact Drawn0.refl _ | apply Drawn0.step)⟩
 ·
  replace c4 := Bool.eq_false_iff.mpr c4; subst c4; have H1 : (some ((⟨#[]⟩ : ByteArray), false)) = some (r1, r2) := by rw [if_neg (show ¬ (false = true) by decide)] at H; exact H
  clear H; have H := H1; clear H1; simp only [Option.some.injEq, Prod.mk.injEq] at H; obtain ⟨rfl, rfl⟩ := H
  go_enter Tryz.func26, Tryz.ntmps26
  go_wp2_with (first | ((with_reducible refine gate_callee (f := 45) rfl ?_); refine goesL_ (some 7) rfl rfl Tryz.func45 t9_ rfl #[.string a0] rfl (by (try simp only [m1_, m2_, m3_]); first | done | rfl) ?_; (with_reducible refine (spec_raPoints.calls k a0 false _ A3.out).mono ?_); rintro e w' ⟨rfl, ⟨nd, rfl⟩⟩; refine ⟨_, rfl, ?_⟩))
  go_ret2
  exact ⟨by first | rfl | (simp; done) | (simp [*]; done), by repeat (first | exact Drawn0.refl _ | apply Drawn0.step)⟩
mutual
def spec_PointsOnServe.j0 : Nat → ByteArray → Int → Bool → Option (Int × Int × Bool)
 | 0, _, _, _ => none
 | k + 1, x0, x1, x18 => if x18 = true then (some (0, 0, false)) else ((spec_raServers.f k x0 x1).bind fun t379 => (spec_PointsOnServe.l0 k x0 0 0 t379 0))
def spec_PointsOnServe.l0 : Nat → ByteArray → Int → Int → ByteArray → Int → Option (Int × Int × Bool)
 | 0, _, _, _, _, _ => none
 | k + 1, x0, x7, x8, x9, x10 => if x10 < (x0.size : Int) then (if 0 ≤ x10 then (if x10 < (x9.size : Int) then (if (bt x0 x10) = (bt x9 x10) then (if (bt x0 x10) = 97 then (spec_PointsOnServe.l0 k x0 (wrap64 (x7 + 1)) x8 x9 (wrap64 (x10 + 1))) else (spec_PointsOnServe.l0 k x0 x7 (wrap64 (x8 + 1)) x9 (wrap64 (x10 + 1)))) else (spec_PointsOnServe.l0 k x0 x7 x8 x9 (wrap64 (x10 + 1)))) else (none)) else (none)) else (some (x7, x8, true))
end
def spec_PointsOnServe.f (k : Nat) (a0 : ByteArray) (a1 : Int) : Option (Int × Int × Bool) := (spec_raPoints.f k a0).bind fun t377 => (if t377 = true then ((spec_l1In.f a1 1 10).bind fun t378 => (spec_PointsOnServe.j0 k a0 a1 (!t378))) else (spec_PointsOnServe.j0 k a0 a1 true))
set_option maxHeartbeats 8000000 in
set_option maxRecDepth 100000 in
theorem spec_PointsOnServe.calls (k : Nat) (a0 : ByteArray) (a1 : Int) (r1 : Int) (r2 : Int) (r3 : Bool) (w : World) (h : spec_PointsOnServe.f k a0 a1 = some (r1, r2, r3)) :
  Calls Tryz.prog 28 #[.string a0, .int .i64 a1] w fun e w' => e = .returned (.tuple #[.int .i64 r1, .int .i64 r2, .bool r3]) ∧ Drawn0 w w' := by
 have H : ((spec_raPoints.f k a0).bind fun t377 => (if t377 = true then ((spec_l1In.f a1 1 10).bind fun t378 => (spec_PointsOnServe.j0 k a0 a1 (!t378))) else (spec_PointsOnServe.j0 k a0 a1 true))) = some (r1, r2, r3) := h; clear h; have HC3 := a_ H; clear H
 go_enter Tryz.func28, Tryz.ntmps28
 go_upto_region 1 with (fail)
 repeat (go_quiet (fail); go_upto_region 1 with (fail))
 go_cut [18] (fun v18 wc => ∃ (kq : Nat) (x18_2 : Bool), v18 = .bool x18_2 ∧ Aside0 (spec_PointsOnServe.j0 kq a0 a1 x18_2 = some (r1, r2, r3)) ∧ Aside0 (kq ≤ k) ∧ Drawn0 w wc)
 case first =>
  have H := HC3.out; clear HC3; replace H := Option.bind_eq_some_iff.mp H; obtain ⟨t377, A40, H⟩ := H; replace H : (if t377 = true then ((spec_l1In.f a1 1 10).bind fun t378 => (spec_PointsOnServe.j0 k a0 a1 (!t378))) else (spec_PointsOnServe.j0 k a0 a1 true)) = some (r1, r2, r3) := H; have A4 := a_ A40; clear A40
  by_cases c5 : t377 = true
  ·
   subst c5; have H1 : ((spec_l1In.f a1 1 10).bind fun t378 => (spec_PointsOnServe.j0 k a0 a1 (!t378))) = some (r1, r2, r3) := by rw [if_pos rfl] at H; exact H
   clear H; have H := H1; clear H1; replace H := Option.bind_eq_some_iff.mp H; obtain ⟨t378, A60, H⟩ := H; replace H : (spec_PointsOnServe.j0 k a0 a1 (!t378)) = some (r1, r2, r3) := H; have A6 := a_ A60; clear A60; have H' := a_ H; clear H
   go_wp2_with (first | (go_at_call 45; (with_reducible refine (spec_raPoints.calls k a0 true _ A4.out).mono ?_); rintro e w' ⟨rfl, ⟨nd, rfl⟩⟩; (try first | exact ⟨rfl, _, World.drewN_drewN _ _ _⟩ | exact ⟨rfl, _, Eq.trans (World.drewN_drewN _ _ _) (congrArg (World.drewN _) (Nat.add_assoc _ _ _))⟩)) | (go_at_call 51; (with_reducible refine (spec_l1In.calls a1 1 10 t378 _ A6.out).mono ?_); rintro e w' ⟨rfl, ⟨nd, rfl⟩⟩; (try first | exact ⟨rfl, _, World.drewN_drewN _ _ _⟩ | exact ⟨rfl, _, Eq.trans (World.drewN_drewN _ _ _) (congrArg (World.drewN _) (Nat.add_assoc _ _ _))⟩)))
   repeat (go_quiet (first | (go_at_call 45; (with_reducible refine (spec_raPoints.calls k a0 true _ A4.out).mono ?_); rintro e w' ⟨rfl, ⟨nd, rfl⟩⟩; (try first | exact ⟨rfl, _, World.drewN_drewN _ _ _⟩ | exact ⟨rfl, _, Eq.trans (World.drewN_drewN _ _ _) (congrArg (World.drewN _) (Nat.add_assoc _ _ _))⟩)) | (go_at_call 51; (with_reducible refine (spec_l1In.calls a1 1 10 t378 _ A6.out).mono ?_); rintro e w' ⟨rfl, ⟨nd, rfl⟩⟩; (try first | exact ⟨rfl, _, World.drewN_drewN _ _ _⟩ | exact ⟨rfl, _, Eq.trans (World.drewN_drewN _ _ _) (congrArg (World.drewN _) (Nat.add_assoc _ _ _))⟩))); try go_wp2_with (first | (go_at_call 45; (with_reducible refine (spec_raPoints.calls k a0 true _ A4.out).mono ?_); rintro e w' ⟨rfl, ⟨nd, rfl⟩⟩; (try first | exact ⟨rfl, _, World.drewN_drewN _ _ _⟩ | exact ⟨rfl, _, Eq.trans (World.drewN_drewN _ _ _) (congrArg (World.drewN _) (Nat.add_assoc _ _ _))⟩)) | (go_at_call 51; (with_reducible refine (spec_l1In.calls a1 1 10 t378 _ A6.out).mono ?_); rintro e w' ⟨rfl, ⟨nd, rfl⟩⟩; (try first | exact ⟨rfl, _, World.drewN_drewN _ _ _⟩ | exact ⟨rfl, _, Eq.trans (World.drewN_drewN _ _ _) (congrArg (World.drewN _) (Nat.add_assoc _ _ _))⟩))))
   go_meet
   case rel => exact ⟨_, (!t378), t1_, H', ⟨t16_⟩, by repeat (first | exact Drawn0.refl _ | apply Drawn0.step)⟩
  ·
   replace c5 := Bool.eq_false_iff.mpr c5; subst c5; have H1 : (spec_PointsOnServe.j0 k a0 a1 true) = some (r1, r2, r3) := by rw [if_neg (show ¬ (false = true) by decide)] at H; exact H
   clear H; have H := H1; clear H1; have H' := a_ H; clear H
   go_wp2_with (first | (go_at_call 45; (with_reducible refine (spec_raPoints.calls k a0 false _ A4.out).mono ?_); rintro e w' ⟨rfl, ⟨nd, rfl⟩⟩; (try first | exact ⟨rfl, _, World.drewN_drewN _ _ _⟩ | exact ⟨rfl, _, Eq.trans (World.drewN_drewN _ _ _) (congrArg (World.drewN _) (Nat.add_assoc _ _ _))⟩)))
   repeat (go_quiet (first | (go_at_call 45; (with_reducible refine (spec_raPoints.calls k a0 false _ A4.out).mono ?_); rintro e w' ⟨rfl, ⟨nd, rfl⟩⟩; (try first | exact ⟨rfl, _, World.drewN_drewN _ _ _⟩ | exact ⟨rfl, _, Eq.trans (World.drewN_drewN _ _ _) (congrArg (World.drewN _) (Nat.add_assoc _ _ _))⟩))); try go_wp2_with (first | (go_at_call 45; (with_reducible refine (spec_raPoints.calls k a0 false _ A4.out).mono ?_); rintro e w' ⟨rfl, ⟨nd, rfl⟩⟩; (try first | exact ⟨rfl, _, World.drewN_drewN _ _ _⟩ | exact ⟨rfl, _, Eq.trans (World.drewN_drewN _ _ _) (congrArg (World.drewN _) (Nat.add_assoc _ _ _))⟩))))
   go_meet
   case rel => exact ⟨_, (true), t1_, H', ⟨t16_⟩, by repeat (first | exact Drawn0.refl _ | apply Drawn0.step)⟩
 case rest =>
  clear HC3; obtain ⟨kq, x18_2, rfl, HA, HJ2, ⟨mc2, rfl⟩⟩ := hcut
  cases kq with
  | zero => exact absurd HA.out (by simp [spec_PointsOnServe.j0])
  | succ kj2 =>
   have H := HA.out; clear HA; simp only [spec_PointsOnServe.j0] at H
   by_cases c7 : x18_2 = true
   ·
    subst c7; have H1 : (some (0, 0, false)) = some (r1, r2, r3) := by rw [if_pos rfl] at H; exact H
    clear H; have H := H1; clear H1; simp only [Option.some.injEq, Prod.mk.injEq] at H; obtain ⟨rfl, rfl, rfl⟩ := H
    go_wp2
    repeat (go_quiet (fail); try go_wp2)
    go_ret3
    exact ⟨by first | rfl | (simp; done) | (simp [*]; done), by repeat (first | exact Drawn0.refl _ | apply Drawn0.step)⟩
   ·
    replace c7 := Bool.eq_false_iff.mpr c7; subst c7; have H1 : ((spec_raServers.f kj2 a0 a1).bind fun t379 => (spec_PointsOnServe.l0 kj2 a0 0 0 t379 0)) = some (r1, r2, r3) := by rw [if_neg (show ¬ (false = true) by decide)] at H; exact H
    clear H; have H := H1; clear H1; replace H := Option.bind_eq_some_iff.mp H; obtain ⟨t379, A80, H⟩ := H; replace H : (spec_PointsOnServe.l0 kj2 a0 0 0 t379 0) = some (r1, r2, r3) := H; have A8 := a_ A80; clear A80; have H' := a_ H; clear H
    go_wp2_with (first | (go_at_call 52; (with_reducible refine (spec_raServers.calls kj2 a0 a1 t379 _ A8.out).mono ?_); rintro e w' ⟨rfl, ⟨nd, rfl⟩⟩; (try first | exact ⟨rfl, _, World.drewN_drewN _ _ _⟩ | exact ⟨rfl, _, Eq.trans (World.drewN_drewN _ _ _) (congrArg (World.drewN _) (Nat.add_assoc _ _ _))⟩)))
    repeat (go_quiet (first | (go_at_call 52; (with_reducible refine (spec_raServers.calls kj2 a0 a1 t379 _ A8.out).mono ?_); rintro e w' ⟨rfl, ⟨nd, rfl⟩⟩; (try first | exact ⟨rfl, _, World.drewN_drewN _ _ _⟩ | exact ⟨rfl, _, Eq.trans (World.drewN_drewN _ _ _) (congrArg (World.drewN _) (Nat.add_assoc _ _ _))⟩))); try go_wp2_with (first | (go_at_call 52; (with_reducible refine (spec_raServers.calls kj2 a0 a1 t379 _ A8.out).mono ?_); rintro e w' ⟨rfl, ⟨nd, rfl⟩⟩; (try first | exact ⟨rfl, _, World.drewN_drewN _ _ _⟩ | exact ⟨rfl, _, Eq.trans (World.drewN_drewN _ _ _) (congrArg (World.drewN _) (Nat.add_assoc _ _ _))⟩))))
    go_loopg [7, 8, 10] kj2 (fun kq v7 v8 v10 w' => ∃ (x7_2 : Int) (x8_2 : Int) (x10_2 : Int), v7 = .int .i64 x7_2 ∧ v8 = .int .i64 x8_2 ∧ v10 = .int .i64 x10_2 ∧ Aside0 (spec_PointsOnServe.l0 kq a0 x7_2 x8_2 t379 x10_2 = some (r1, r2, r3)) ∧ Aside0 (kq ≤ kj2) ∧ Drawn0 w w')
    case atStart => exact ⟨(0), (0), (0), t1_, t1_, t1_, H', ⟨Nat.le_refl _⟩, by repeat (first | exact Drawn0.refl _ | apply Drawn0.step)⟩
    case round =>
     clear H'; obtain ⟨x7_2, x8_2, x10_2, rfl, rfl, rfl, HA, HK2, ⟨m2, rfl⟩⟩ := hrel
     cases gk with
     | zero => exact absurd HA.out (by simp [spec_PointsOnServe.l0])
     | succ k2 =>
      have H := HA.out; clear HA; simp only [spec_PointsOnServe.l0] at H
      by_cases c9 : x10_2 < (a0.size : Int)
      ·
       rw [if_pos c9] at H; have c9b0 : decide (x10_2 < (a0.size : Int)) = true := decide_eq_true c9; clear c9
       by_cases c10 : 0 ≤ x10_2
       ·
        rw [if_pos c10] at H; have c10b0 : decide (0 ≤ x10_2) = true := decide_eq_true c10; clear c10
        by_cases c12 : x10_2 < (t379.size : Int)
        ·
         rw [if_pos c12] at H; have c12b0 : decide (x10_2 < (t379.size : Int)) = true := decide_eq_true c12; clear c12
         by_cases c14 : (bt a0 x10_2) = (bt t379 x10_2)
         ·
          rw [if_pos c14] at H; have c14b0 : ((bt a0 x10_2) == (bt t379 x10_2)) = true := beq_iff_eq.mpr c14; have c14b1 : ((bt a0 x10_2) != (bt t379 x10_2)) = false := bne_eq_false_iff_eq.mpr c14; clear c14
          by_cases c16 : (bt a0 x10_2) = 97
          ·
           rw [if_pos c16] at H; have c16b0 : ((bt a0 x10_2) == 97) = true := beq_iff_eq.mpr c16; have c16b1 : ((bt a0 x10_2) != 97) = false := bne_eq_false_iff_eq.mpr c16; clear c16; have H' := a_ H; clear H; have p11 : 0 ≤ (x10_2 : Int) := of_decide_eq_true t2_; have q11 : x10_2 < (a0.size : Int) := of_decide_eq_true t2_; have hx11 := bt_at a0 x10_2; replace p11 := eq_true p11; replace q11 := eq_true q11; have p13 : 0 ≤ (x10_2 : Int) := of_decide_eq_true t2_; have q13 : x10_2 < (t379.size : Int) := of_decide_eq_true t2_; have hx13 := bt_at t379 x10_2; replace p13 := eq_true p13; replace q13 := eq_true q13; have p15 : 0 ≤ (x10_2 : Int) := of_decide_eq_true t2_; have q15 : x10_2 < (a0.size : Int) := of_decide_eq_true t2_; have hx15 := bt_at a0 x10_2; replace p15 := eq_true p15; replace q15 := eq_true q15
           go_wp2
           repeat (go_quiet (fail); try go_wp2)
           go_roundg k2
           case measure => have := HJ2.out; have := HK2.out; omega
           case rel => exact ⟨(wrap64 (x7_2 + 1)), (x8_2), (wrap64 (x10_2 + 1)), t1_, t1_, t1_, H', ⟨t44_⟩, by repeat (first | exact Drawn0.refl _ | apply Drawn0.step)⟩
          ·
           rw [if_neg c16] at H; have c16b0 : ((bt a0 x10_2) == 97) = false := beq_eq_false_iff_ne.mpr c16; have c16b1 : ((bt a0 x10_2) != 97) = true := bne_iff_ne.mpr c16; have H' := a_ H; clear H; have p11 : 0 ≤ (x10_2 : Int) := of_decide_eq_true t2_; have q11 : x10_2 < (a0.size : Int) := of_decide_eq_true t2_; have hx11 := bt_at a0 x10_2; replace p11 := eq_true p11; replace q11 := eq_true q11; have p13 : 0 ≤ (x10_2 : Int) := of_decide_eq_true t2_; have q13 : x10_2 < (t379.size : Int) := of_decide_eq_true t2_; have hx13 := bt_at t379 x10_2; replace p13 := eq_true p13; replace q13 := eq_true q13; have p15 : 0 ≤ (x10_2 : Int) := of_decide_eq_true t2_; have q15 : x10_2 < (a0.size : Int) := of_decide_eq_true t2_; have hx15 := bt_at a0 x10_2; replace p15 := eq_true p15; replace q15 := eq_true q15
           go_wp2
           repeat (go_quiet (fail); try go_wp2)
           go_roundg k2
           case measure => have := HJ2.out; have := HK2.out; omega
           case rel => exact ⟨(x7_2), (wrap64 (x8_2 + 1)), (wrap64 (x10_2 + 1)), t1_, t1_, t1_, H', ⟨t44_⟩, by repeat (first | exact Drawn0.refl _ | apply Drawn0.step)⟩
         ·
          rw [if_neg c14] at H; have c14b0 : ((bt a0 x10_2) == (bt t379 x10_2)) = false := beq_eq_false_iff_ne.mpr c14; have c14b1 : ((bt a0 x10_2) != (bt t379 x10_2)) = true := bne_iff_ne.mpr c14; have H' := a_ H; clear H; have p11 : 0 ≤ (x10_2 : Int) := of_decide_eq_true t2_; have q11 : x10_2 < (a0.size : Int) := of_decide_eq_true t2_; have hx11 := bt_at a0 x10_2; replace p11 := eq_true p11; replace q11 := eq_true q11; have p13 : 0 ≤ (x10_2 : Int) := of_decide_eq_true t2_; have q13 : x10_2 < (t379.size : Int) := of_decide_eq_true t2_; have hx13 := bt_at t379 x10_2; replace p13 := eq_true p13; replace q13 := eq_true q13
          go_wp2
          repeat (go_quiet (fail); try go_wp2)
          go_roundg k2
          case measure => have := HJ2.out; have := HK2.out; omega
          case rel => exact ⟨(x7_2), (x8_2), (wrap64 (x10_2 + 1)), t1_, t1_, t1_, H', ⟨t44_⟩, by repeat (first | exact Drawn0.refl _ | apply Drawn0.step)⟩
        ·
         rw [if_neg c12] at H
         exact absurd H t19_
       ·
        rw [if_neg c10] at H
        exact absurd H t19_
      ·
       rw [if_neg c9] at H; have c9b0 : decide (x10_2 < (a0.size : Int)) = false := decide_eq_false c9; clear c9; simp only [Option.some.injEq, Prod.mk.injEq] at H; obtain ⟨rfl, rfl, rfl⟩ := H
       go_wp2
       repeat (go_quiet (fail); try go_wp2)
       go_ret3
       exact ⟨by first | rfl | (simp; done) | (simp [*]; done), by repeat (first | exact Drawn0.refl _ | apply Drawn0.step)⟩
def spec_l1Cur_one.f (s0_0 : List Int) (s0_1 : Int) (s0_2 : Int) (a1 : Int) : Option (Bool × Int × Int) := (spec_l1Cur_pick.f s0_0 s0_1 s0_2 a1).bind fun bt380 => (some ((bt380.1 == 0), bt380.2.1, bt380.2.2))
set_option maxHeartbeats 8000000 in
set_option maxRecDepth 100000 in
theorem spec_l1Cur_one.calls (g : Nat) (s0_0 : List Int) (s0_1 : Int) (s0_2 : Int) (a1 : Int) (r1 : Bool) (r2 : Int) (r3 : Int) (w0 w : World) (hI : IsS68 w0 w g s0_0 s0_1 s0_2) (hB : Below w0.heap.size w0 w) (h : spec_l1Cur_one.f s0_0 s0_1 s0_2 a1 = some (r1, r2, r3)) :
  Calls Tryz.prog 56 #[.pointer (some ⟨g, 0, none⟩), .int .i64 a1] w fun e w' => e = .returned (.bool r1) ∧ IsS68 w0 w' g s0_0 r2 r3 ∧ Below w0.heap.size w0 w' ∧ KeepBut w w' g none := by
 have HI0 := a_ hI; have HK := a_ (KeepBut.refl w g none); have HL := a_ hB.size; clear hI; have HW0 := a_ hB.size; have HB := a_ hB; clear hB; have H : ((spec_l1Cur_pick.f s0_0 s0_1 s0_2 a1).bind fun bt380 => (some ((bt380.1 == 0), bt380.2.1, bt380.2.2))) = some (r1, r2, r3) := h; clear h; replace H := Option.bind_eq_some_iff.mp H; obtain ⟨⟨t380, t381, t382⟩, A30, H⟩ := H; replace H : (some ((t380 == 0), t381, t382)) = some (r1, r2, r3) := H; have A3 := a_ A30; clear A30; simp only [Option.some.injEq, Prod.mk.injEq] at H; obtain ⟨rfl, rfl, rfl⟩ := H
 go_enter Tryz.func56, Tryz.ntmps56
 go_wp2_with (first | ((with_reducible refine gate_callee (f := 54) rfl ?_); refine goesL_ (some 7) rfl rfl Tryz.func54 t9_ rfl #[.pointer (some ⟨g, 0, none⟩), .int .i64 a1] rfl (by (try simp only [m1_, m2_, m3_]); first | done | rfl) ?_; (with_reducible refine (spec_l1Cur_pick.calls g s0_0 s0_1 s0_2 a1 t380 t381 t382 w0 _ ?side1 ?side2 A3.out).mono ?_); (case side1 => repeat (first | (with_reducible first | exact HI0.out | apply IsS68.alloc | apply IsS68.drewN | apply IsS68.drew | apply IsS68.set_1 | apply IsS68.set_2) | exact HI0.out)); (case side2 => repeat (first | (with_reducible first | exact HB.out | apply below_alloc | apply pw_below_drewN | apply below_drew1 | refine below_set ?_ (IsS68.ge HI0.out)) | exact HB.out)); rintro e w4 ⟨rfl, hi, hb, hk⟩; refine ⟨_, rfl, ?_⟩; have n0_ := a_ (KeepBut.trans t0_ hk (.inl rfl)); have n1_ := a_ (hb); have n2_ := a_ (hi); clear HK; clear HB; clear HI0; have HK := n0_; have HB := n1_; have HI0 := n2_; clear n0_ n1_ n2_; (try clear hb); (try clear hb2); (try clear hk); (try clear hi)))
 go_ret
 exact ⟨by first | rfl | (simp [errW_none, errW_some] <;> rfl) | (simp [*, errW_none, errW_some] <;> rfl), by repeat (first | (with_reducible first | exact HI0.out | apply IsS68.alloc | apply IsS68.drewN | apply IsS68.drew | apply IsS68.set_1 | apply IsS68.set_2) | exact HI0.out), by repeat (first | (with_reducible first | exact HB.out | apply below_alloc | apply pw_below_drewN | apply below_drew1 | refine below_set ?_ (IsS68.ge HI0.out)) | exact HB.out), by repeat (first | (with_reducible first | exact HK.out | apply KeepBut.set_ | apply keep_drewN | apply keep_drew | apply keep_alloc) | exact HK.out)⟩
end Go.Proofs.YtiknaldhjbdnbaaGreatDoor.QFnRacesWon
