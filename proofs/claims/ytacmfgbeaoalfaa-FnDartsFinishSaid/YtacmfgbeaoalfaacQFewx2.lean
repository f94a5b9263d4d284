/- The fewest darts for each score, walked: its first half, and the whole. No condition. -/
import Derived.Test.YtacmfgbeaoalfaacQFnDartsFinishx0
import Derived.Test.YtacmfgbeaoalfaacGSco
import Derived.Test.YtacmfgbeaoalfaacGBrd
import Derived.Test.YtacmfgbeaoalfaacQFewx1
import Derived.Test.YtacmfgbeaoalfaacGQ
namespace Go.Proofs.Ytacmfgbeaoalfaa.QFnDartsFinish
open Go.RowKit Go.Proofs.YtacmfgbeaoalfaaW.PrintWords Go.Proofs.YtacmfgbeaoalfaaW.PrintLast Go.Proofs.YtacmfgbeaoalfaaW.PrintMore Go.Proofs.Ytacmfgbeaoalfaa.Sh
attribute [local go_sem] max2_int min2_int max_two min_two max_three min_three max_four min_four
set_option linter.unusedVariables false
set_option linter.unusedSimpArgs false
set_option maxHeartbeats 8000000 in
set_option maxRecDepth 100000 in
theorem fewP.calls (k : Nat) (a0 : Bool) (r : List Int) (w : World) (h : fewP.f k a0 = some r) :
  Calls Try.prog 34 #[.bool a0] w fun e w' => ∃ v0_ : Value, e = .returned (v0_) ∧ Kd.R (Kd.int .i64) 3 w' w.heap.size (fun _ => True) v0_ r ∧ Below w.heap.size w w' := by
 have hu43 := Try.underlying43; have HB := a_ (Below.refl w.heap.size w); have H : (if 1002 ≤ 35184372088832 then (fewP.l0 k a0 (List.replicate 1002 0) 1) else (none)) = some r := h; clear h
 by_cases c2 : 1002 ≤ 35184372088832
 ·
  rw [if_pos c2] at H; have c2b0 := eq_true c2; have c2b1 : decide (1002 ≤ 35184372088832) = true := decide_eq_true c2; clear c2; obtain ⟨y102, hy102⟩ : ∃ y_ : List Int, y_ = (List.replicate 1002 0) := ⟨_, rfl⟩; replace H : (fewP.l0 k a0 y102 1) = some r := by first | (rw [hy102]; with_reducible exact H) | (have H2_ := (Option.bind_some _ _).symm.trans H; rw [hy102]; with_reducible exact H2_) | (have H2_ := (Option.bind_some _ _).symm.trans H; with_reducible exact H2_) | with_reducible exact H | (rw [hy102]; exact H) | exact H
  have Ny102 := a_ hy102; clear hy102; have H' := a_ H; clear H
  go_enter Try.func34, Try.ntmps34
  go_wp2_with (first | ((with_reducible refine gate_dst (N := 11) rfl ?_); refine Kd.R_make (Kd.int .i64) _ 3 rfl (N := 11) rfl 33 _ _ rfl 1002 rfl rfl Try.underlying33 (.int .i64 0) 8 info3 rfl t29_ t46_ 0 (ok := fun _ => True) (okp := fun _ => True) rfl (fun _ hk => hk) trivial t46_ t46_ (Below.refl _ _) (Nat.le_refl _) ?_; intro v103 w3 ho4 hb hg_ hnew_; clear hg_ hnew_; (first | rw [← Ny102.out] at ho4 | (simp only [Int.reduceToNat] at ho4; rw [← Ny102.out] at ho4)); have n0_ := a_ (Kd.R_lower ho4 (below_size (L_ HB.out (Nat.le_refl _) (Nat.le_refl _) (Nat.le_refl _)))); have n1_ := a_ (below_step (L_ HB.out (Nat.le_refl _) (Nat.le_refl _) (Nat.le_refl _)) hb); clear HB; have HO104 := n0_; have HB := n1_; clear n0_ n1_; clear hb ho4))
  go_loopg [4] k (fun kq v4 w' => ∃ (x3_1 : List Int) (x4_1 : Int), v4 = .int .i64 x4_1 ∧ Aside0 (fewP.l0 kq a0 x3_1 x4_1 = some r) ∧ Aside0 (kq ≤ k) ∧ Aside0 (Kd.R (Kd.int .i64) 3 w' w.heap.size (fun _ => True) v103 x3_1) ∧ Aside0 (Below w.heap.size w w'))
  case atStart => exact ⟨(y102), (1), t2_, H', ⟨Nat.le_refl _⟩, ⟨R_ HO104.out⟩, ⟨L_ HB.out (Nat.le_refl _) (Nat.le_refl _) (Nat.le_refl _)⟩⟩
  case round =>
   clear H'; obtain ⟨x3_1, x4_1, rfl, HA, HK1, HO_3, HB⟩ := hrel
   cases gk with
   | zero => exact absurd HA.out (by simp [fewP.l0])
   | succ k1 =>
    have H := HA.out; clear HA; simp only [fewP.l0] at H
    by_cases c5 : x4_1 ≤ 1001
    ·
     rw [if_pos c5] at H; have c5b0 : decide (x4_1 ≤ 1001) = true := decide_eq_true c5; clear c5
     by_cases c6 : 0 ≤ x4_1
     ·
      rw [if_pos c6] at H; have c6b0 : decide (0 ≤ x4_1) = true := decide_eq_true c6; clear c6
      by_cases c7 : x4_1 < (x3_1.length : Int)
      ·
       rw [if_pos c7] at H; have c7b0 : decide (x4_1 < (x3_1.length : Int)) = true := decide_eq_true c7; clear c7; obtain ⟨y105, hy105⟩ : ∃ y_ : List Int, y_ = (x3_1.set (x4_1 : Int).toNat (-1)) := ⟨_, rfl⟩; replace H : ((impl_board.f).bind fun t106 => (fewP.l1 k1 a0 y105 x4_1 t106 (t106.length : Int) 0)) = some r := by first | (rw [hy105]; with_reducible exact H) | (have H2_ := (Option.bind_some _ _).symm.trans H; rw [hy105]; with_reducible exact H2_) | (have H2_ := (Option.bind_some _ _).symm.trans H; with_reducible exact H2_) | with_reducible exact H | (rw [hy105]; exact H) | exact H
       have Ny105 := a_ hy105; clear hy105; replace H := Option.bind_eq_some_iff.mp H; obtain ⟨t106, A90, H⟩ := H; replace H : (fewP.l1 k1 a0 y105 x4_1 t106 (t106.length : Int) 0) = some r := H; have A9 := a_ A90; clear A90; have H' := a_ H; clear H; have p8 : 0 ≤ (x4_1 : Int) := of_decide_eq_true t0_; have q8 : (x4_1 : Int) < ((x3_1.length : Int) : Int) := of_decide_eq_true t0_; obtain ⟨go8, co8, eo8, gb8, gl8, cl8, HG8⟩ := Kd.R_form HO_3.out t46_
       (first | cases eo8 | (injection eo8 with ea_ en_ ec_; (first | subst ea_ | (injection ea_ with ea_; subst ea_)); subst ec_; clear en_))
       have GB8 := a_ gb8; have GG8 := a_ HG8; clear gb8 gl8 HG8; obtain ⟨hx8_0, hf8_0⟩ := Kd.R_celln 0 HO_3.out (x4_1 : Int) p8 q8; replace p8 := eq_true p8; replace q8 := eq_true q8; have HP10 := Kd.R_putg HO_3.out (x4_1 : Int) (-1)
       go_wp2_with (first | ((with_reducible refine gate_store (t := 3) (p := 18) rfl ?_); refine store_event (t := 3) (p := 18) (v := ?vo_w11) (w1 := (wr.setCell ⟨go8, (x4_1 : Int).toNat, none⟩ (.int .i64 (-1)))) ?hg ?ho ?hn ?hr ?_; (case ho => rfl); (case hg => rfl); (case hn => rfl); (case hr => first | (go_simp; done) | (go_simp; rfl)); intro w11 hw; have hg : wr.grownBy w11 (some go8) := (by rw [hw]; exact HP10.2); have hp_ : Kd.R (Kd.int .i64) 3 w11 w.heap.size (fun _ => True) (.slice (some ⟨go8, 0, none⟩) x3_1.length co8) y105 := (by rw [hw, Ny105.out]; exact HP10.1); clear HP10; have n0_ := a_ (hp_); have n1_ := a_ ((by rw [hw]; exact below_set (HB.out) GB8.out : Below w.heap.size w w11)); clear HO_3; clear HB; have HO_3 := n0_; have HB := n1_; clear n0_ n1_; clear hg hw hp_) | ((with_reducible refine gate_callee (f := 35) rfl ?_); refine goesL_ (some 19) rfl rfl Try.func35 t1_ rfl #[] rfl t28_ ?_; (with_reducible refine (impl_board.calls  t106 _ A9.out).mono ?_); rintro e w12 ⟨v107, rfl, ho0, hb⟩; refine ⟨_, rfl, ?_⟩; have n0_ := a_ (Kd.R_below (R_ HO_3.out) hb); have n1_ := a_ (Kd.R_lower ho0 (below_size (L_ HB.out (Nat.le_refl _) (Nat.le_refl _) (Nat.le_refl _)))); have n2_ := a_ (below_step (L_ HB.out (Nat.le_refl _) (Nat.le_refl _) (Nat.le_refl _)) hb); clear HO_3; clear HB; have HO_3 := n0_; have HO108 := n1_; have HB := n2_; clear n0_ n1_ n2_; (try clear hb); (try clear hb2); (try clear hk); (try clear hi); (try clear ho0); obtain ⟨Ao13, co13, eo13⟩ := Kd.R_slice HO108.out; subst eo13))
       go_loopg [21] k1 (fun kq v21 w' => ∃ (x3_2 : List Int) (x21_2 : Int), v21 = .int .i64 x21_2 ∧ Aside0 (fewP.l1 kq a0 x3_2 x4_1 t106 (t106.length : Int) x21_2 = some r) ∧ Aside0 (kq ≤ k1) ∧ Aside0 (Kd.R (Kd.int .i64) 3 w' w.heap.size (fun _ => True) (.slice (some ⟨go8, 0, none⟩) x3_1.length co8) x3_2) ∧ Aside0 (Kd.R k43 43 w' w.heap.size (fun _ => True) (.slice Ao13 t106.length co13) t106) ∧ Aside0 (Below w.heap.size w w'))
       case atStart => exact ⟨(y105), (0), t2_, H', ⟨Nat.le_refl _⟩, ⟨R_ HO_3.out⟩, ⟨R_ HO108.out⟩, ⟨L_ HB.out (Nat.le_refl _) (Nat.le_refl _) (Nat.le_refl _)⟩⟩
       case round =>
        clear H'; obtain ⟨x3_2, x21_2, rfl, HA, HK2, HO_3, HO_19, HB⟩ := hrel; have hl3_2 := (Kd.R_reads' HO_3.out).1; rw [hl3_2] at HO_3
        (try simp only [hl3_2])
        (try simp only [hl3_2] at HO_19)
        cases gk with
        | zero => exact absurd HA.out (by simp [fewP.l1])
        | succ k2 =>
         have H := HA.out; clear HA; simp only [fewP.l1] at H
         by_cases c14 : x21_2 < (t106.length : Int)
         ·
          rw [if_pos c14] at H; have c14b0 : decide (x21_2 < (t106.length : Int)) = true := decide_eq_true c14; clear c14
          by_cases c15 : 0 ≤ x21_2
          ·
           rw [if_pos c15] at H; have c15b0 : decide (0 ≤ x21_2) = true := decide_eq_true c15; clear c15
           by_cases c16 : x21_2 < (t106.length : Int)
           ·
            rw [if_pos c16] at H; have c16b0 : decide (x21_2 < (t106.length : Int)) = true := decide_eq_true c16; clear c16; replace H := Option.bind_eq_some_iff.mp H; obtain ⟨t111, A170, H⟩ := H; replace H : (if t111 ≤ x4_1 then ((impl_Dart_score.f ((rd_T43 t106 x21_2).f0) ((rd_T43 t106 x21_2).f1)).bind fun t112 => (if 0 ≤ (wrap64 (x4_1 - t112)) then (if (wrap64 (x4_1 - t112)) < (x3_2.length : Int) then (if (rd x3_2 (wrap64 (x4_1 - t112))) ≥ 0 then (if 0 ≤ x4_1 then (if x4_1 < (x3_2.length : Int) then (if (rd x3_2 x4_1) < 0 then ((impl_Dart_score.f ((rd_T43 t106 x21_2).f0) ((rd_T43 t106 x21_2).f1)).bind fun t115 => (if 0 ≤ (wrap64 (x4_1 - t115)) then (if (wrap64 (x4_1 - t115)) < (x3_2.length : Int) then (fewP.l1 k2 a0 (x3_2.set (x4_1 : Int).toNat (wrap64 ((rd x3_2 (wrap64 (x4_1 - t115))) + 1))) x4_1 t106 (t106.length : Int) (wrap64 (x21_2 + 1))) else (none)) else (none))) else ((impl_Dart_score.f ((rd_T43 t106 x21_2).f0) ((rd_T43 t106 x21_2).f1)).bind fun t118 => (if 0 ≤ (wrap64 (x4_1 - t118)) then (if (wrap64 (x4_1 - t118)) < (x3_2.length : Int) then (if (wrap64 ((rd x3_2 (wrap64 (x4_1 - t118))) + 1)) < (rd x3_2 x4_1) then ((impl_Dart_score.f ((rd_T43 t106 x21_2).f0) ((rd_T43 t106 x21_2).f1)).bind fun t121 => (if 0 ≤ (wrap64 (x4_1 - t121)) then (if (wrap64 (x4_1 - t121)) < (x3_2.length : Int) then (fewP.l1 k2 a0 (x3_2.set (x4_1 : Int).toNat (wrap64 ((rd x3_2 (wrap64 (x4_1 - t121))) + 1))) x4_1 t106 (t106.length : Int) (wrap64 (x21_2 + 1))) else (none)) else (none))) else (fewP.l1 k2 a0 x3_2 x4_1 t106 (t106.length : Int) (wrap64 (x21_2 + 1)))) else (none)) else (none)))) else (none)) else (none)) else (fewP.l1 k2 a0 x3_2 x4_1 t106 (t106.length : Int) (wrap64 (x21_2 + 1)))) else (none)) else (none))) else (fewP.l1 k2 a0 x3_2 x4_1 t106 (t106.length : Int) (wrap64 (x21_2 + 1)))) = some r := H; have A17 := a_ A170; clear A170
            by_cases c18 : t111 ≤ x4_1
            ·
             rw [if_pos c18] at H; have c18b0 : decide (t111 ≤ x4_1) = true := decide_eq_true c18; clear c18; replace H := Option.bind_eq_some_iff.mp H; obtain ⟨t112, A190, H⟩ := H; replace H : (if 0 ≤ (wrap64 (x4_1 - t112)) then (if (wrap64 (x4_1 - t112)) < (x3_2.length : Int) then (if (rd x3_2 (wrap64 (x4_1 - t112))) ≥ 0 then (if 0 ≤ x4_1 then (if x4_1 < (x3_2.length : Int) then (if (rd x3_2 x4_1) < 0 then ((impl_Dart_score.f ((rd_T43 t106 x21_2).f0) ((rd_T43 t106 x21_2).f1)).bind fun t115 => (if 0 ≤ (wrap64 (x4_1 - t115)) then (if (wrap64 (x4_1 - t115)) < (x3_2.length : Int) then (fewP.l1 k2 a0 (x3_2.set (x4_1 : Int).toNat (wrap64 ((rd x3_2 (wrap64 (x4_1 - t115))) + 1))) x4_1 t106 (t106.length : Int) (wrap64 (x21_2 + 1))) else (none)) else (none))) else ((impl_Dart_score.f ((rd_T43 t106 x21_2).f0) ((rd_T43 t106 x21_2).f1)).bind fun t118 => (if 0 ≤ (wrap64 (x4_1 - t118)) then (if (wrap64 (x4_1 - t118)) < (x3_2.length : Int) then (if (wrap64 ((rd x3_2 (wrap64 (x4_1 - t118))) + 1)) < (rd x3_2 x4_1) then ((impl_Dart_score.f ((rd_T43 t106 x21_2).f0) ((rd_T43 t106 x21_2).f1)).bind fun t121 => (if 0 ≤ (wrap64 (x4_1 - t121)) then (if (wrap64 (x4_1 - t121)) < (x3_2.length : Int) then (fewP.l1 k2 a0 (x3_2.set (x4_1 : Int).toNat (wrap64 ((rd x3_2 (wrap64 (x4_1 - t121))) + 1))) x4_1 t106 (t106.length : Int) (wrap64 (x21_2 + 1))) else (none)) else (none))) else (fewP.l1 k2 a0 x3_2 x4_1 t106 (t106.length : Int) (wrap64 (x21_2 + 1)))) else (none)) else (none)))) else (none)) else (none)) else (fewP.l1 k2 a0 x3_2 x4_1 t106 (t106.length : Int) (wrap64 (x21_2 + 1)))) else (none)) else (none)) = some r := H; have A19 := a_ A190; clear A190; obtain ⟨ji20, hji20⟩ : ∃ j_ : Int, (wrap64 (x4_1 - t112)) = j_ := ⟨_, rfl⟩; replace H : (if 0 ≤ (ji20) then (if (ji20) < (x3_2.length : Int) then (if (rd x3_2 (ji20)) ≥ 0 then (if 0 ≤ x4_1 then (if x4_1 < (x3_2.length : Int) then (if (rd x3_2 x4_1) < 0 then ((impl_Dart_score.f ((rd_T43 t106 x21_2).f0) ((rd_T43 t106 x21_2).f1)).bind fun t115 => (if 0 ≤ (wrap64 (x4_1 - t115)) then (if (wrap64 (x4_1 - t115)) < (x3_2.length : Int) then (fewP.l1 k2 a0 (x3_2.set (x4_1 : Int).toNat (wrap64 ((rd x3_2 (wrap64 (x4_1 - t115))) + 1))) x4_1 t106 (t106.length : Int) (wrap64 (x21_2 + 1))) else (none)) else (none))) else ((impl_Dart_score.f ((rd_T43 t106 x21_2).f0) ((rd_T43 t106 x21_2).f1)).bind fun t118 => (if 0 ≤ (wrap64 (x4_1 - t118)) then (if (wrap64 (x4_1 - t118)) < (x3_2.length : Int) then (if (wrap64 ((rd x3_2 (wrap64 (x4_1 - t118))) + 1)) < (rd x3_2 x4_1) then ((impl_Dart_score.f ((rd_T43 t106 x21_2).f0) ((rd_T43 t106 x21_2).f1)).bind fun t121 => (if 0 ≤ (wrap64 (x4_1 - t121)) then (if (wrap64 (x4_1 - t121)) < (x3_2.length : Int) then (fewP.l1 k2 a0 (x3_2.set (x4_1 : Int).toNat (wrap64 ((rd x3_2 (wrap64 (x4_1 - t121))) + 1))) x4_1 t106 (t106.length : Int) (wrap64 (x21_2 + 1))) else (none)) else (none))) else (fewP.l1 k2 a0 x3_2 x4_1 t106 (t106.length : Int) (wrap64 (x21_2 + 1)))) else (none)) else (none)))) else (none)) else (none)) else (fewP.l1 k2 a0 x3_2 x4_1 t106 (t106.length : Int) (wrap64 (x21_2 + 1)))) else (none)) else (none)) = some r := by first | (rw [hji20] at H; exact H) | (simp only [hji20] at H ⊢; exact H)
             (try rw [hji20] at A17)
             (try rw [hji20] at A19)
             have hji20w : (IntKind.i64.wrap (x4_1 - t112)) = ji20 := (i64_w _).trans hji20
             by_cases c21 : 0 ≤ (ji20)
             ·
              rw [if_pos c21] at H; have c21b0 : decide (0 ≤ (ji20)) = true := decide_eq_true c21; clear c21
              by_cases c22 : (ji20) < (x3_2.length : Int)
              ·
               rw [if_pos c22] at H; have c22b0 : decide ((ji20) < (x3_2.length : Int)) = true := decide_eq_true c22; clear c22
               by_cases c23 : (rd x3_2 (ji20)) ≥ 0
               ·
                rw [if_pos c23] at H; have c23b0 : decide (0 ≤ (rd x3_2 (ji20))) = true := decide_eq_true c23; clear c23
                by_cases c24 : 0 ≤ x4_1
                ·
                 rw [if_pos c24] at H; have c24b0 : decide (0 ≤ x4_1) = true := decide_eq_true c24; clear c24
                 by_cases c25 : x4_1 < (x3_2.length : Int)
                 ·
                  rw [if_pos c25] at H; have c25b0 : decide (x4_1 < (x3_2.length : Int)) = true := decide_eq_true c25; clear c25
                  by_cases c26 : (rd x3_2 x4_1) < 0
                  ·
                   rw [if_pos c26] at H; have c26b0 : decide ((rd x3_2 x4_1) < 0) = true := decide_eq_true c26; clear c26; replace H := Option.bind_eq_some_iff.mp H; obtain ⟨t115, A270, H⟩ := H; replace H : (if 0 ≤ (wrap64 (x4_1 - t115)) then (if (wrap64 (x4_1 - t115)) < (x3_2.length : Int) then (fewP.l1 k2 a0 (x3_2.set (x4_1 : Int).toNat (wrap64 ((rd x3_2 (wrap64 (x4_1 - t115))) + 1))) x4_1 t106 (t106.length : Int) (wrap64 (x21_2 + 1))) else (none)) else (none)) = some r := H; have A27 := a_ A270; clear A270; obtain ⟨ji28, hji28⟩ : ∃ j_ : Int, (wrap64 (x4_1 - t115)) = j_ := ⟨_, rfl⟩; replace H : (if 0 ≤ (ji28) then (if (ji28) < (x3_2.length : Int) then (fewP.l1 k2 a0 (x3_2.set (x4_1 : Int).toNat (wrap64 ((rd x3_2 (ji28)) + 1))) x4_1 t106 (t106.length : Int) (wrap64 (x21_2 + 1))) else (none)) else (none)) = some r := by first | (rw [hji28] at H; exact H) | (simp only [hji28] at H ⊢; exact H)
                   (try rw [hji28] at A17)
                   (try rw [hji28] at A19)
                   (try rw [hji28] at A27)
                   have hji28w : (IntKind.i64.wrap (x4_1 - t115)) = ji28 := (i64_w _).trans hji28
                   by_cases c29 : 0 ≤ (ji28)
                   ·
                    rw [if_pos c29] at H; have c29b0 : decide (0 ≤ (ji28)) = true := decide_eq_true c29; clear c29
                    by_cases c30 : (ji28) < (x3_2.length : Int)
                    ·
                     rw [if_pos c30] at H; have c30b0 : decide ((ji28) < (x3_2.length : Int)) = true := decide_eq_true c30; clear c30; obtain ⟨y117, hy117⟩ : ∃ y_ : List Int, y_ = (x3_2.set (x4_1 : Int).toNat (wrap64 ((rd x3_2 (ji28)) + 1))) := ⟨_, rfl⟩; replace H : (fewP.l1 k2 a0 y117 x4_1 t106 (t106.length : Int) (wrap64 (x21_2 + 1))) = some r := by first | (rw [hy117]; with_reducible exact H) | (have H2_ := (Option.bind_some _ _).symm.trans H; rw [hy117]; with_reducible exact H2_) | (have H2_ := (Option.bind_some _ _).symm.trans H; with_reducible exact H2_) | with_reducible exact H | (rw [hy117]; exact H) | exact H
                     have Ny117 := a_ hy117; clear hy117; have H' := a_ H; clear H; have p109 : 0 ≤ (x21_2 : Int) := of_decide_eq_true t0_; have q109 : x21_2 < (t106.length : Int) := of_decide_eq_true t0_; obtain ⟨ad109, e109, hx109_0, hx109_1⟩ := at_T43 (Kd.R_reads' HO_19.out).2.2 x21_2 p109 q109
                     cases e109
                     replace p109 := eq_true p109; replace q109 := eq_true q109
                     try go_wp2_with (first | ((with_reducible refine gate_dst (N := 6) rfl ?_); refine box_event ?hg (N := 6) ?hd (cs := #[.int .i64 0, .int .i64 0]) (t := 43) ?hr ?_; (case hd => rfl); (case hg => rfl); (case hr => first | (go_simp; done) | (go_simp; rfl)); intro gb110 hg w32 hbox hb; have n0_ := a_ (Kd.R_below (R_ HO_3.out) hb); have n1_ := a_ (Kd.R_below (Kd.R_elderB (R_ HO_19.out) gb110 (Nat.le_of_eq hg.symm)) hb); have n2_ := a_ (below_step (L_ HB.out (Nat.le_refl _) (Nat.le_refl _) (Nat.le_refl _)) hb); have n3_ := a_ (hbox); have n4_ := a_ ((by rw [hg]; exact (below_size (L_ HB.out (Nat.le_refl _) (Nat.le_refl _) (Nat.le_refl _))) : w.heap.size ≤ gb110)); have n5_ := a_ ((by rw [hg]; exact (below_size (L_ HB.out (Nat.le_refl _) (Nat.le_refl _) (Nat.le_refl _))) : w.heap.size ≤ gb110)); clear HO_3; clear HO_19; clear HB; have HO_3 := n0_; have HO_19 := n1_; have HB := n2_; have BK110 := n3_; have GW110 := n4_; have GE110 := n5_; clear n0_ n1_ n2_ n3_ n4_ n5_; clear hb hbox hg; have hcz33_0 : w32.cell? ⟨gb110, 0, none⟩ = some (.int .i64 0) := c_ BK110.out 0; have hcz33_1 : w32.cell? ⟨gb110, 1, none⟩ = some (.int .i64 0) := c_ BK110.out 1; have hfz33_0 := blk_frozen BK110.out 0; have hfz33_1 := blk_frozen BK110.out 1))
                     have n0_ : Aside0 (Kd.R (Kd.int .i64) 3 ((w32.setCell ⟨gb110, 0, none⟩ (.int .i64 ((rd_T43 t106 x21_2).f0))).setCell ⟨gb110, 1, none⟩ (.int .i64 ((rd_T43 t106 x21_2).f1))) w.heap.size (fun _ => True) (.slice (some ⟨go8, 0, none⟩) x3_2.length co8) x3_2) := ⟨t12_⟩; have n1_ : Aside0 (Kd.R k43 43 ((w32.setCell ⟨gb110, 0, none⟩ (.int .i64 ((rd_T43 t106 x21_2).f0))).setCell ⟨gb110, 1, none⟩ (.int .i64 ((rd_T43 t106 x21_2).f1))) w.heap.size (fun k_ => k_ ≠ gb110) (.slice (some ad109) t106.length co13) t106) := ⟨t9_⟩; have n2_ : Aside0 (((w32.setCell ⟨gb110, 0, none⟩ (.int .i64 ((rd_T43 t106 x21_2).f0))).setCell ⟨gb110, 1, none⟩ (.int .i64 ((rd_T43 t106 x21_2).f1))).heap[gb110]? = some (.cells #[.int .i64 ((rd_T43 t106 x21_2).f0), .int .i64 ((rd_T43 t106 x21_2).f1)] 43 (0, 0))) := ⟨t11_⟩; have n3_ : Aside0 (Below w.heap.size w ((w32.setCell ⟨gb110, 0, none⟩ (.int .i64 ((rd_T43 t106 x21_2).f0))).setCell ⟨gb110, 1, none⟩ (.int .i64 ((rd_T43 t106 x21_2).f1)))) := ⟨L_ HB.out GE110.out GE110.out GE110.out⟩
                     (try clear HO_3)
                     (try clear HO_19)
                     (try clear BK110)
                     (try clear HB)
                     generalize ((w32.setCell ⟨gb110, 0, none⟩ (.int .i64 ((rd_T43 t106 x21_2).f0))).setCell ⟨gb110, 1, none⟩ (.int .i64 ((rd_T43 t106 x21_2).f1))) = w34 at n0_ n1_ n2_ n3_ ⊢; have HO_3 := n0_; have HO_19 := n1_; have BK110 := n2_; have HB := n3_; clear n0_ n1_ n2_ n3_; have n0_ := a_ (Kd.R_drew HO_3.out); have n1_ := a_ (Kd.R_drew HO_19.out); have n2_ := a_ (blk_drew BK110.out); have n3_ := a_ (below_drew1 HB.out); clear HO_3; clear HO_19; clear BK110; clear HB; have HO_3 := n0_; have HO_19 := n1_; have BK110 := n2_; have HB := n3_; clear n0_ n1_ n2_ n3_; have p113 : 0 ≤ ((ji20) : Int) := of_decide_eq_true t0_; have q113 : (ji20) < (x3_2.length : Int) := of_decide_eq_true t0_; obtain ⟨ad113, e113, hx113_0⟩ := Kd.at_int (Kd.R_reads' HO_3.out).2.2 (ji20) p113 q113; obtain rfl : (⟨go8, 0, none⟩ : Addr) = ad113 := (by injection e113)
                     (first | simp only [add_plain] at hx113_0 | simp only [add_at] at hx113_0 | simp only [Addr.add, Nat.zero_add] at hx113_0 | skip)
                     replace p113 := eq_true p113; replace q113 := eq_true q113; have p114 : 0 ≤ (x4_1 : Int) := of_decide_eq_true t0_; have q114 : x4_1 < (x3_2.length : Int) := of_decide_eq_true t0_; obtain ⟨ad114, e114, hx114_0⟩ := Kd.at_int (Kd.R_reads' HO_3.out).2.2 x4_1 p114 q114; obtain rfl : (⟨go8, 0, none⟩ : Addr) = ad114 := (by injection e114)
                     (first | simp only [add_plain] at hx114_0 | simp only [add_at] at hx114_0 | simp only [Addr.add, Nat.zero_add] at hx114_0 | skip)
                     replace p114 := eq_true p114; replace q114 := eq_true q114
                     refine start_ (n := 36) (S := fun w' => w'.cell? ⟨gb110, 0, none⟩ = some (.int .i64 ((rd_T43 t106 x21_2).f0)) ∧ w'.cell? ⟨gb110, 1, none⟩ = some (.int .i64 ((rd_T43 t106 x21_2).f1)) ∧ w'.cell? ⟨go8, ((ji20)).toNat, none⟩ = some (.int .i64 (rd x3_2 (ji20))) ∧ w'.cell? ⟨go8, (x4_1).toNat, none⟩ = some (.int .i64 (rd x3_2 x4_1))) (ds := []) #[false, false, false, false, false, false, false, false, false, false, false, false, false, false, false, false, false, false, false, false, false, false, false, false, false, false, false, false, false, false, false, false, false, false, false, false] t1_ rfl rfl ⟨c_ BK110.out 0, c_ BK110.out 1, hx113_0, hx114_0⟩ (fun hHeld => ?_); refine with_tabW fewP.tab9 fewP.bits9 (fun HT_ HW_ => ?_)
                     generalize w34.drew = w35 at HO_3 HO_19 BK110 HB hx113_0 hx114_0 hHeld ⊢
                     refine pure_ (i := 2) (N := some 27) (v := ?_) (a' := ?_) #[false, false, true, false, false, false, false, false, false, false, false, false, false, false, false, false, false, false, false, false, false, false, false, false, false, false, false, false, false, false, false, false, false, false, false, false] rfl rfl (any_of HT_.out t1_) (fun _ _ _ h => h) (Or.inl ⟨by rfl, ?_⟩) ?_ ?_
                     rotate_left
                     ·
                      intro w'
                      go_simp
                      with_reducible rfl
                     rotate_left
                     ·
                      simp only [Act.put, List.setIfInBounds_toArray, List.set_cons_zero, List.set_cons_succ, i64_w, i32_w]
                      rfl
                     refine take_ (i := 0) (N := some 25) (v := ?_) (a' := ?_) #[true, false, true, false, false, false, false, false, false, false, false, false, false, false, false, false, false, false, false, false, false, false, false, false, false, false, false, false, false, false, false, false, false, false, false, false] rfl rfl (take_ofW HT_.out HW_.out t1_) (fun _ _ _ h => h) (Or.inl ⟨by rfl, ?_⟩) hHeld ?_ ?_
                     rotate_left
                     ·
                      rintro w' ⟨s0, s1, s2, s3⟩
                      go_simp
                      with_reducible rfl
                     rotate_left
                     ·
                      simp only [Act.put, List.setIfInBounds_toArray, List.set_cons_zero, List.set_cons_succ, i64_w, i32_w]
                      rfl
                     refine one_ (i := 1) (N := some 26) #[true, true, true, false, false, false, false, false, false, false, false, false, false, false, false, false, false, false, false, false, false, false, false, false, false, false, false, false, false, false, false, false, false, false, false, false] rfl rfl (one_of HT_.out t1_) t29_ (fun K hK => ?_)
                     refine goes_ Try.func36 t1_ rfl #[.agg #[.int .i64 ((rd_T43 t106 x21_2).f0), .int .i64 ((rd_T43 t106 x21_2).f1)]] (by rfl) rfl rfl (by (try simp only [m1_, m2_, m3_]); first | done | rfl) ?_
                     with_reducible refine (impl_Dart_score.calls ((rd_T43 t106 x21_2).f0) ((rd_T43 t106 x21_2).f1) t111 _ A17.out).mono ?_
                     rintro e w36 ⟨rfl, hb⟩; have HS2_ := (hb.cell (World.block_lt_of_cell? _ _ (hHeld.2.2.1))).trans (hHeld.2.2.1); have HS3_ := (hb.cell (World.block_lt_of_cell? _ _ (hHeld.2.2.2))).trans (hHeld.2.2.2)
                     refine ⟨_, rfl, ?_⟩
                     have n0_ := a_ (Kd.R_below (R_ HO_3.out) hb); have n1_ := a_ (Kd.R_below (R_ HO_19.out) hb); have n2_ := bb_ BK110 hb; have n3_ := a_ (below_step (L_ HB.out GE110.out GE110.out GE110.out) hb); clear HO_3; clear HO_19; clear BK110; clear HB; have HO_3 := n0_; have HO_19 := n1_; have BK110 := n2_; have HB := n3_; clear n0_ n1_ n2_ n3_
                     (try clear hb)
                     (try clear hb2)
                     (try clear hk)
                     (try clear hi)
                     refine hK.out _ _ ⟨c_ BK110.out 0, c_ BK110.out 1, HS2_, HS3_⟩ (fun hHeld => ?_)
                     clear hK K
                     refine norm_ (a' := ?_) ?_ ?_
                     rotate_left
                     ·
                      show Act.put _ (some 26) _ = _
                      simp only [Act.put, List.setIfInBounds_toArray, List.set_cons_zero, List.set_cons_succ, i64_w, i32_w]
                      rfl
                     refine pure_ (i := 3) (N := some 28) (v := ?_) (a' := ?_) #[true, true, true, true, false, false, false, false, false, false, false, false, false, false, false, false, false, false, false, false, false, false, false, false, false, false, false, false, false, false, false, false, false, false, false, false] rfl rfl (any_of HT_.out t1_) (fun _ _ _ h => h) (Or.inl ⟨by rfl, ?_⟩) ?_ ?_
                     rotate_left
                     ·
                      intro w'
                      go_simp
                      with_reducible rfl
                     rotate_left
                     ·
                      simp only [Act.put, List.setIfInBounds_toArray, List.set_cons_zero, List.set_cons_succ, i64_w, i32_w]
                      rfl
                     refine pure_ (i := 4) (N := some 29) (v := ?_) (a' := ?_) #[true, true, true, true, true, false, false, false, false, false, false, false, false, false, false, false, false, false, false, false, false, false, false, false, false, false, false, false, false, false, false, false, false, false, false, false] rfl rfl (any_of HT_.out t1_) (fun _ _ _ h => h) (Or.inl ⟨by rfl, ?_⟩) ?_ ?_
                     rotate_left
                     ·
                      intro w'
                      go_simp
                      with_reducible rfl
                     rotate_left
                     ·
                      simp only [Act.put, List.setIfInBounds_toArray, List.set_cons_zero, List.set_cons_succ, i64_w, i32_w]
                      rfl
                     refine pure_ (i := 5) (N := some 30) (v := ?_) (a' := ?_) #[true, true, true, true, true, true, false, false, false, false, false, false, false, false, false, false, false, false, false, false, false, false, false, false, false, false, false, false, false, false, false, false, false, false, false, false] rfl rfl (any_of HT_.out t1_) (fun _ _ _ h => h) (Or.inl ⟨by rfl, ?_⟩) ?_ ?_
                     rotate_left
                     ·
                      intro w'
                      go_simp
                      with_reducible rfl
                     rotate_left
                     ·
                      simp only [Act.put, List.setIfInBounds_toArray, List.set_cons_zero, List.set_cons_succ, i64_w, i32_w]
                      rfl
                     refine pure_ (i := 6) (N := some 31) (v := ?_) (a' := ?_) #[true, true, true, true, true, true, true, false, false, false, false, false, false, false, false, false, false, false, false, false, false, false, false, false, false, false, false, false, false, false, false, false, false, false, false, false] rfl rfl (any_of HT_.out t1_) (fun _ _ _ h => h) (Or.inl ⟨by rfl, ?_⟩) ?_ ?_
                     rotate_left
                     ·
                      intro w'
                      go_simp
                      with_reducible rfl
                     rotate_left
                     ·
                      simp only [Act.put, List.setIfInBounds_toArray, List.set_cons_zero, List.set_cons_succ, i64_w, i32_w]
                      rfl
                     refine take_ (i := 7) (N := some 32) (v := ?_) (a' := ?_) #[true, true, true, true, true, true, true, true, false, false, false, false, false, false, false, false, false, false, false, false, false, false, false, false, false, false, false, false, false, false, false, false, false, false, false, false] rfl rfl (take_ofW HT_.out HW_.out t1_) (fun _ _ _ h => h) (Or.inl ⟨by rfl, ?_⟩) hHeld ?_ ?_
                     rotate_left
                     ·
                      rintro w' ⟨s0, s1, s2, s3⟩
                      go_simp
                      with_reducible rfl
                     rotate_left
                     ·
                      simp only [Act.put, List.setIfInBounds_toArray, List.set_cons_zero, List.set_cons_succ, i64_w, i32_w]
                      rfl
                     refine one_ (i := 8) (N := some 33) #[true, true, true, true, true, true, true, true, true, false, false, false, false, false, false, false, false, false, false, false, false, false, false, false, false, false, false, false, false, false, false, false, false, false, false, false] rfl rfl (one_of HT_.out t1_) t29_ (fun K hK => ?_)
                     refine goes_ Try.func36 t1_ rfl #[.agg #[.int .i64 ((rd_T43 t106 x21_2).f0), .int .i64 ((rd_T43 t106 x21_2).f1)]] (by rfl) rfl rfl (by (try simp only [m1_, m2_, m3_]); first | done | rfl) ?_
                     with_reducible refine (impl_Dart_score.calls ((rd_T43 t106 x21_2).f0) ((rd_T43 t106 x21_2).f1) t112 _ A19.out).mono ?_
                     rintro e w37 ⟨rfl, hb⟩; have HS2_ := (hb.cell (World.block_lt_of_cell? _ _ (hHeld.2.2.1))).trans (hHeld.2.2.1); have HS3_ := (hb.cell (World.block_lt_of_cell? _ _ (hHeld.2.2.2))).trans (hHeld.2.2.2)
                     refine ⟨_, rfl, ?_⟩
                     have n0_ := a_ (Kd.R_below (R_ HO_3.out) hb); have n1_ := a_ (Kd.R_below (R_ HO_19.out) hb); have n2_ := bb_ BK110 hb; have n3_ := a_ (below_step (L_ HB.out GE110.out GE110.out GE110.out) hb); clear HO_3; clear HO_19; clear BK110; clear HB; have HO_3 := n0_; have HO_19 := n1_; have BK110 := n2_; have HB := n3_; clear n0_ n1_ n2_ n3_
                     (try clear hb)
                     (try clear hb2)
                     (try clear hk)
                     (try clear hi)
                     refine hK.out _ _ ⟨c_ BK110.out 0, c_ BK110.out 1, HS2_, HS3_⟩ (fun hHeld => ?_)
                     clear hK K
                     refine norm_ (a' := ?_) ?_ ?_
                     rotate_left
                     ·
                      show Act.put _ (some 33) _ = _
                      simp only [Act.put, List.setIfInBounds_toArray, List.set_cons_zero, List.set_cons_succ, i64_w, i32_w]
                      rfl
                     refine pure_ (i := 9) (N := some 34) (v := ?_) (a' := ?_) #[true, true, true, true, true, true, true, true, true, true, false, false, false, false, false, false, false, false, false, false, false, false, false, false, false, false, false, false, false, false, false, false, false, false, false, false] rfl rfl (any_of HT_.out t1_) (fun _ _ _ h => h) (Or.inl ⟨by rfl, ?_⟩) ?_ ?_
                     rotate_left
                     ·
                      intro w'
                      go_simp
                      with_reducible rfl
                     rotate_left
                     ·
                      simp only [Act.put, List.setIfInBounds_toArray, List.set_cons_zero, List.set_cons_succ, i64_w, i32_w]
                      rfl
                     refine pure_ (i := 10) (N := some 35) (v := ?_) (a' := ?_) #[true, true, true, true, true, true, true, true, true, true, true, false, false, false, false, false, false, false, false, false, false, false, false, false, false, false, false, false, false, false, false, false, false, false, false, false] rfl rfl (any_of HT_.out t1_) (fun _ _ _ h => h) (Or.inl ⟨by rfl, ?_⟩) ?_ ?_
                     rotate_left
                     ·
                      intro w'
                      go_simp
                      with_reducible rfl
                     rotate_left
                     ·
                      simp only [Act.put, List.setIfInBounds_toArray, List.set_cons_zero, List.set_cons_succ, i64_w, i32_w]
                      rfl
                     refine take_ (i := 11) (N := some 36) (v := ?_) (a' := ?_) #[true, true, true, true, true, true, true, true, true, true, true, true, false, false, false, false, false, false, false, false, false, false, false, false, false, false, false, false, false, false, false, false, false, false, false, false] rfl rfl (take_ofW HT_.out HW_.out t1_) (fun _ _ _ h => h) (Or.inl ⟨by rfl, ?_⟩) hHeld ?_ ?_
                     rotate_left
                     ·
                      rintro w' ⟨s0, s1, s2, s3⟩
                      go_simp
                      with_reducible rfl
                     rotate_left
                     ·
                      simp only [Act.put, List.setIfInBounds_toArray, List.set_cons_zero, List.set_cons_succ, i64_w, i32_w]
                      rfl
                     refine pure_ (i := 12) (N := some 37) (v := ?_) (a' := ?_) #[true, true, true, true, true, true, true, true, true, true, true, true, true, false, false, false, false, false, false, false, false, false, false, false, false, false, false, false, false, false, false, false, false, false, false, false] rfl rfl (any_of HT_.out t1_) (fun _ _ _ h => h) (Or.inl ⟨by rfl, ?_⟩) ?_ ?_
                     rotate_left
                     ·
                      intro w'
                      go_simp
                      with_reducible rfl
                     rotate_left
                     ·
                      simp only [Act.put, List.setIfInBounds_toArray, List.set_cons_zero, List.set_cons_succ, i64_w, i32_w]
                      rfl
                     refine pure_ (i := 13) (N := some 38) (v := ?_) (a' := ?_) #[true, true, true, true, true, true, true, true, true, true, true, true, true, true, false, false, false, false, false, false, false, false, false, false, false, false, false, false, false, false, false, false, false, false, false, false] rfl rfl (any_of HT_.out t1_) (fun _ _ _ h => h) (Or.inl ⟨by rfl, ?_⟩) ?_ ?_
                     rotate_left
                     ·
                      intro w'
                      go_simp
                      with_reducible rfl
                     rotate_left
                     ·
                      simp only [Act.put, List.setIfInBounds_toArray, List.set_cons_zero, List.set_cons_succ, i64_w, i32_w]
                      rfl
                     refine pure_ (i := 14) (N := some 39) (v := ?_) (a' := ?_) #[true, true, true, true, true, true, true, true, true, true, true, true, true, true, true, false, false, false, false, false, false, false, false, false, false, false, false, false, false, false, false, false, false, false, false, false] rfl rfl (any_of HT_.out t1_) (fun _ _ _ h => h) (Or.inl ⟨by rfl, ?_⟩) ?_ ?_
                     rotate_left
                     ·
                      intro w'
                      go_simp
                      with_reducible rfl
                     rotate_left
                     ·
                      simp only [Act.put, List.setIfInBounds_toArray, List.set_cons_zero, List.set_cons_succ, i64_w, i32_w]
                      rfl
                     refine pure_ (i := 15) (N := some 40) (v := ?_) (a' := ?_) #[true, true, true, true, true, true, true, true, true, true, true, true, true, true, true, true, false, false, false, false, false, false, false, false, false, false, false, false, false, false, false, false, false, false, false, false] rfl rfl (any_of HT_.out t1_) (fun _ _ _ h => h) (Or.inl ⟨by rfl, ?_⟩) ?_ ?_
                     rotate_left
                     ·
                      intro w'
                      go_simp
                      with_reducible rfl
                     rotate_left
                     ·
                      simp only [Act.put, List.setIfInBounds_toArray, List.set_cons_zero, List.set_cons_succ, i64_w, i32_w]
                      rfl
                     refine pure_ (i := 16) (N := some 41) (v := ?_) (a' := ?_) #[true, true, true, true, true, true, true, true, true, true, true, true, true, true, true, true, true, false, false, false, false, false, false, false, false, false, false, false, false, false, false, false, false, false, false, false] rfl rfl (any_of HT_.out t1_) (fun _ _ _ h => h) (Or.inl ⟨by rfl, ?_⟩) ?_ ?_
                     rotate_left
                     ·
                      intro w'
                      go_simp
                      with_reducible rfl
                     rotate_left
                     ·
                      simp only [Act.put, List.setIfInBounds_toArray, List.set_cons_zero, List.set_cons_succ, i64_w, i32_w]
                      rfl
                     refine pure_ (i := 17) (N := some 42) (v := ?_) (a' := ?_) #[true, true, true, true, true, true, true, true, true, true, true, true, true, true, true, true, true, true, false, false, false, false, false, false, false, false, false, false, false, false, false, false, false, false, false, false] rfl rfl (any_of HT_.out t1_) (fun _ _ _ h => h) (Or.inl ⟨by rfl, ?_⟩) ?_ ?_
                     rotate_left
                     ·
                      intro w'
                      go_simp
                      with_reducible rfl
                     rotate_left
                     ·
                      simp only [Act.put, List.setIfInBounds_toArray, List.set_cons_zero, List.set_cons_succ, i64_w, i32_w]
                      rfl
                     refine take_ (i := 18) (N := some 43) (v := ?_) (a' := ?_) #[true, true, true, true, true, true, true, true, true, true, true, true, true, true, true, true, true, true, true, false, false, false, false, false, false, false, false, false, false, false, false, false, false, false, false, false] rfl rfl (take_ofW HT_.out HW_.out t1_) (fun _ _ _ h => h) (Or.inl ⟨by rfl, ?_⟩) hHeld ?_ ?_
                     rotate_left
                     ·
                      rintro w' ⟨s0, s1, s2, s3⟩
                      go_simp
                      with_reducible rfl
                     rotate_left
                     ·
                      simp only [Act.put, List.setIfInBounds_toArray, List.set_cons_zero, List.set_cons_succ, i64_w, i32_w]
                      rfl
                     refine pure_ (i := 19) (N := some 44) (v := ?_) (a' := ?_) #[true, true, true, true, true, true, true, true, true, true, true, true, true, true, true, true, true, true, true, true, false, false, false, false, false, false, false, false, false, false, false, false, false, false, false, false] rfl rfl (any_of HT_.out t1_) (fun _ _ _ h => h) (Or.inl ⟨by rfl, ?_⟩) ?_ ?_
                     rotate_left
                     ·
                      intro w'
                      go_simp
                      with_reducible rfl
                     rotate_left
                     ·
                      simp only [Act.put, List.setIfInBounds_toArray, List.set_cons_zero, List.set_cons_succ, i64_w, i32_w]
                      rfl
                     refine pure_ (i := 20) (N := some 45) (v := ?_) (a' := ?_) #[true, true, true, true, true, true, true, true, true, true, true, true, true, true, true, true, true, true, true, true, true, false, false, false, false, false, false, false, false, false, false, false, false, false, false, false] rfl rfl (any_of HT_.out t1_) (fun _ _ _ h => h) (Or.inl ⟨by rfl, ?_⟩) ?_ ?_
                     rotate_left
                     ·
                      intro w'
                      go_simp
                      with_reducible rfl
                     rotate_left
                     ·
                      simp only [Act.put, List.setIfInBounds_toArray, List.set_cons_zero, List.set_cons_succ, i64_w, i32_w]
                      rfl
                     refine pure_ (i := 21) (N := some 46) (v := undef) (a' := ?_) #[true, true, true, true, true, true, true, true, true, true, true, true, true, true, true, true, true, true, true, true, true, true, false, false, false, false, false, false, false, false, false, false, false, false, false, false] rfl rfl (any_of HT_.out t1_) (fun _ _ _ h => h) (Or.inr ⟨by rfl, rfl⟩) ?_ ?_
                     rotate_left
                     ·
                      simp only [Act.put, List.setIfInBounds_toArray, List.set_cons_zero, List.set_cons_succ, i64_w, i32_w]
                      rfl
                     refine pure_ (i := 22) (N := some 47) (v := undef) (a' := ?_) #[true, true, true, true, true, true, true, true, true, true, true, true, true, true, true, true, true, true, true, true, true, true, true, false, false, false, false, false, false, false, false, false, false, false, false, false] rfl rfl (any_of HT_.out t1_) (fun _ _ _ h => h) (Or.inr ⟨by rfl, rfl⟩) ?_ ?_
                     rotate_left
                     ·
                      simp only [Act.put, List.setIfInBounds_toArray, List.set_cons_zero, List.set_cons_succ, i64_w, i32_w]
                      rfl
                     refine pure_ (i := 23) (N := some 48) (v := undef) (a' := ?_) #[true, true, true, true, true, true, true, true, true, true, true, true, true, true, true, true, true, true, true, true, true, true, true, true, false, false, false, false, false, false, false, false, false, false, false, false] rfl rfl (any_of HT_.out t1_) (fun _ _ _ h => h) (Or.inr ⟨by rfl, rfl⟩) ?_ ?_
                     rotate_left
                     ·
                      simp only [Act.put, List.setIfInBounds_toArray, List.set_cons_zero, List.set_cons_succ, i64_w, i32_w]
                      rfl
                     refine pure_ (i := 24) (N := some 49) (v := undef) (a' := ?_) #[true, true, true, true, true, true, true, true, true, true, true, true, true, true, true, true, true, true, true, true, true, true, true, true, true, false, false, false, false, false, false, false, false, false, false, false] rfl rfl (any_of HT_.out t1_) (fun _ _ _ h => h) (Or.inr ⟨by rfl, rfl⟩) ?_ ?_
                     rotate_left
                     ·
                      simp only [Act.put, List.setIfInBounds_toArray, List.set_cons_zero, List.set_cons_succ, i64_w, i32_w]
                      rfl
                     refine pure_ (i := 25) (N := some 50) (v := undef) (a' := ?_) #[true, true, true, true, true, true, true, true, true, true, true, true, true, true, true, true, true, true, true, true, true, true, true, true, true, true, false, false, false, false, false, false, false, false, false, false] rfl rfl (any_of HT_.out t1_) (fun _ _ _ h => h) (Or.inr ⟨by rfl, rfl⟩) ?_ ?_
                     rotate_left
                     ·
                      simp only [Act.put, List.setIfInBounds_toArray, List.set_cons_zero, List.set_cons_succ, i64_w, i32_w]
                      rfl
                     refine pure_ (i := 26) (N := some 51) (v := undef) (a' := ?_) #[true, true, true, true, true, true, true, true, true, true, true, true, true, true, true, true, true, true, true, true, true, true, true, true, true, true, true, false, false, false, false, false, false, false, false, false] rfl rfl (any_of HT_.out t1_) (fun _ _ _ h => h) (Or.inr ⟨by rfl, rfl⟩) ?_ ?_
                     rotate_left
                     ·
                      simp only [Act.put, List.setIfInBounds_toArray, List.set_cons_zero, List.set_cons_succ, i64_w, i32_w]
                      rfl
                     refine pure_ (i := 27) (N := some 52) (v := undef) (a' := ?_) #[true, true, true, true, true, true, true, true, true, true, true, true, true, true, true, true, true, true, true, true, true, true, true, true, true, true, true, true, false, false, false, false, false, false, false, false] rfl rfl (any_of HT_.out t1_) (fun _ _ _ h => h) (Or.inr ⟨by rfl, rfl⟩) ?_ ?_
                     rotate_left
                     ·
                      simp only [Act.put, List.setIfInBounds_toArray, List.set_cons_zero, List.set_cons_succ, i64_w, i32_w]
                      rfl
                     refine pure_ (i := 28) (N := some 53) (v := undef) (a' := ?_) #[true, true, true, true, true, true, true, true, true, true, true, true, true, true, true, true, true, true, true, true, true, true, true, true, true, true, true, true, true, false, false, false, false, false, false, false] rfl rfl (any_of HT_.out t1_) (fun _ _ _ h => h) (Or.inr ⟨by rfl, rfl⟩) ?_ ?_
                     rotate_left
                     ·
                      simp only [Act.put, List.setIfInBounds_toArray, List.set_cons_zero, List.set_cons_succ, i64_w, i32_w]
                      rfl
                     refine pure_ (i := 29) (N := some 54) (v := undef) (a' := ?_) #[true, true, true, true, true, true, true, true, true, true, true, true, true, true, true, true, true, true, true, true, true, true, true, true, true, true, true, true, true, true, false, false, false, false, false, false] rfl rfl (any_of HT_.out t1_) (fun _ _ _ h => h) (Or.inr ⟨by rfl, rfl⟩) ?_ ?_
                     rotate_left
                     ·
                      simp only [Act.put, List.setIfInBounds_toArray, List.set_cons_zero, List.set_cons_succ, i64_w, i32_w]
                      rfl
                     refine pure_ (i := 30) (N := some 55) (v := undef) (a' := ?_) #[true, true, true, true, true, true, true, true, true, true, true, true, true, true, true, true, true, true, true, true, true, true, true, true, true, true, true, true, true, true, true, false, false, false, false, false] rfl rfl (any_of HT_.out t1_) (fun _ _ _ h => h) (Or.inr ⟨by rfl, rfl⟩) ?_ ?_
                     rotate_left
                     ·
                      simp only [Act.put, List.setIfInBounds_toArray, List.set_cons_zero, List.set_cons_succ, i64_w, i32_w]
                      rfl
                     refine pure_ (i := 31) (N := some 56) (v := undef) (a' := ?_) #[true, true, true, true, true, true, true, true, true, true, true, true, true, true, true, true, true, true, true, true, true, true, true, true, true, true, true, true, true, true, true, true, false, false, false, false] rfl rfl (any_of HT_.out t1_) (fun _ _ _ h => h) (Or.inr ⟨by rfl, rfl⟩) ?_ ?_
                     rotate_left
                     ·
                      simp only [Act.put, List.setIfInBounds_toArray, List.set_cons_zero, List.set_cons_succ, i64_w, i32_w]
                      rfl
                     refine pure_ (i := 32) (N := some 57) (v := undef) (a' := ?_) #[true, true, true, true, true, true, true, true, true, true, true, true, true, true, true, true, true, true, true, true, true, true, true, true, true, true, true, true, true, true, true, true, true, false, false, false] rfl rfl (any_of HT_.out t1_) (fun _ _ _ h => h) (Or.inr ⟨by rfl, rfl⟩) ?_ ?_
                     rotate_left
                     ·
                      simp only [Act.put, List.setIfInBounds_toArray, List.set_cons_zero, List.set_cons_succ, i64_w, i32_w]
                      rfl
                     refine pure_ (i := 33) (N := some 58) (v := undef) (a' := ?_) #[true, true, true, true, true, true, true, true, true, true, true, true, true, true, true, true, true, true, true, true, true, true, true, true, true, true, true, true, true, true, true, true, true, true, false, false] rfl rfl (any_of HT_.out t1_) (fun _ _ _ h => h) (Or.inr ⟨by rfl, rfl⟩) ?_ ?_
                     rotate_left
                     ·
                      simp only [Act.put, List.setIfInBounds_toArray, List.set_cons_zero, List.set_cons_succ, i64_w, i32_w]
                      rfl
                     refine pure_ (i := 34) (N := some 59) (v := ?_) (a' := ?_) #[true, true, true, true, true, true, true, true, true, true, true, true, true, true, true, true, true, true, true, true, true, true, true, true, true, true, true, true, true, true, true, true, true, true, true, false] rfl rfl (any_of HT_.out t1_) (fun _ _ _ h => h) (Or.inl ⟨by rfl, ?_⟩) ?_ ?_
                     rotate_left
                     ·
                      intro w'
                      go_simp
                      with_reducible rfl
                     rotate_left
                     ·
                      simp only [Act.put, List.setIfInBounds_toArray, List.set_cons_zero, List.set_cons_succ, i64_w, i32_w]
                      rfl
                     refine pure_ (i := 35) (N := some 60) (v := ?_) (a' := ?_) #[true, true, true, true, true, true, true, true, true, true, true, true, true, true, true, true, true, true, true, true, true, true, true, true, true, true, true, true, true, true, true, true, true, true, true, true] rfl rfl (any_of HT_.out t1_) (fun _ _ _ h => h) (Or.inl ⟨by rfl, ?_⟩) ?_ ?_
                     rotate_left
                     ·
                      intro w'
                      go_simp
                      with_reducible rfl
                     rotate_left
                     ·
                      simp only [Act.put, List.setIfInBounds_toArray, List.set_cons_zero, List.set_cons_succ, i64_w, i32_w]
                      rfl
                     refine done_ (done_of HT_.out t1_) ?_
                     have hcz38_0 : w37.cell? ⟨gb110, 0, none⟩ = some (.int .i64 ((rd_T43 t106 x21_2).f0)) := c_ BK110.out 0; have hcz38_1 : w37.cell? ⟨gb110, 1, none⟩ = some (.int .i64 ((rd_T43 t106 x21_2).f1)) := c_ BK110.out 1; have hfz38_0 := blk_frozen BK110.out 0; have hfz38_1 := blk_frozen BK110.out 1
                     try go_wp2_with (first | ((with_reducible refine gate_callee (f := 36) rfl ?_); refine goesL_ (some 66) rfl rfl Try.func36 t1_ rfl #[.agg #[.int .i64 ((rd_T43 t106 x21_2).f0), .int .i64 ((rd_T43 t106 x21_2).f1)]] rfl (by (try simp only [m1_, m2_, m3_]); first | done | rfl) ?_; (with_reducible refine (impl_Dart_score.calls ((rd_T43 t106 x21_2).f0) ((rd_T43 t106 x21_2).f1) t115 _ A27.out).mono ?_); rintro e w39 ⟨rfl, hb⟩; refine ⟨_, rfl, ?_⟩; have n0_ := a_ (Kd.R_below (R_ HO_3.out) hb); have n1_ := a_ (Kd.R_below (R_ HO_19.out) hb); have n2_ := bb_ BK110 hb; have n3_ := a_ (below_step (L_ HB.out GE110.out GE110.out GE110.out) hb); clear HO_3; clear HO_19; clear BK110; clear HB; have HO_3 := n0_; have HO_19 := n1_; have BK110 := n2_; have HB := n3_; clear n0_ n1_ n2_ n3_; (try clear hb); (try clear hb2); (try clear hk); (try clear hi); have p116 : 0 ≤ ((ji28) : Int) := of_decide_eq_true t0_; have q116 : (ji28) < (x3_2.length : Int) := of_decide_eq_true t0_; obtain ⟨ad116, e116, hx116_0⟩ := Kd.at_int (Kd.R_reads' HO_3.out).2.2 (ji28) p116 q116; obtain rfl : (⟨go8, 0, none⟩ : Addr) = ad116 := (by injection e116); (first | simp only [add_plain] at hx116_0 | simp only [add_at] at hx116_0 | simp only [Addr.add, Nat.zero_add] at hx116_0 | skip); replace p116 := eq_true p116; replace q116 := eq_true q116; have p31 : 0 ≤ (x4_1 : Int) := of_decide_eq_true t0_; have q31 : (x4_1 : Int) < ((x3_2.length : Int) : Int) := of_decide_eq_true t0_; obtain ⟨hx31_0, hf31_0⟩ := Kd.R_celln 0 HO_3.out (x4_1 : Int) p31 q31; replace p31 := eq_true p31; replace q31 := eq_true q31; obtain ⟨hy40_, hz40_⟩ := Kd.R_celln 0 HO_3.out (x4_1 : Int) (of_decide_eq_true t0_) (of_decide_eq_true t0_); have HP40 := Kd.R_putg HO_3.out (x4_1 : Int) (wrap64 ((rd x3_2 (ji28)) + 1))) | ((with_reducible refine gate_store (t := 3) (p := 71) rfl ?_); refine store_event (t := 3) (p := 71) (v := ?vo_w41) (w1 := (w39.setCell ⟨go8, (x4_1 : Int).toNat, none⟩ (.int .i64 (wrap64 ((rd x3_2 (ji28)) + 1))))) ?hg ?ho ?hn ?hr ?_; (case ho => rfl); (case hg => rfl); (case hn => rfl); (case hr => first | (go_simp; done) | (go_simp; rfl)); intro w41 hw; have hg : w39.grownBy w41 (some go8) := (by rw [hw]; exact HP40.2); have hp_ : Kd.R (Kd.int .i64) 3 w41 w.heap.size (fun _ => True) (.slice (some ⟨go8, 0, none⟩) x3_2.length co8) y117 := (by rw [hw, Ny117.out]; exact HP40.1); clear HP40; have n0_ := a_ (hp_); have n1_ := a_ (Kd.R_over' (v := (.slice (some ⟨go8, 0, none⟩) x3_2.length co8)) (R_ HO_19.out) (Kd.R_typed HO_3.out) t29_ hg); have n2_ := a_ (blk_grown (B_ BK110.out) hg (Kd.R_ne HO_3.out BK110.out t29_)); have n3_ := a_ ((by rw [hw]; exact below_set (HB.out) GB8.out : Below w.heap.size w w41)); clear HO_3; clear HO_19; clear BK110; clear HB; have HO_3 := n0_; have HO_19 := n1_; have BK110 := n2_; have HB := n3_; clear n0_ n1_ n2_ n3_; clear hg hw hp_))
                     (try simp only [← hl3_2])
                     go_roundg k2
                     case measure => have := HK1.out; have := HK2.out; omega
                     case rel => exact ⟨(y117), (wrap64 (x21_2 + 1)), t2_, H', ⟨t41_⟩, ⟨t32_⟩, ⟨t30_⟩, ⟨L_ HB.out GE110.out GE110.out GE110.out⟩⟩
                    ·
                     rw [if_neg c30] at H
                     exact absurd H t31_
                   ·
                    rw [if_neg c29] at H
                    exact absurd H t31_
                  ·
                   rw [if_neg c26] at H; have c26b0 : decide ((rd x3_2 x4_1) < 0) = false := decide_eq_false c26; clear c26; replace H := Option.bind_eq_some_iff.mp H; obtain ⟨t118, A420, H⟩ := H; replace H : (if 0 ≤ (wrap64 (x4_1 - t118)) then (if (wrap64 (x4_1 - t118)) < (x3_2.length : Int) then (if (wrap64 ((rd x3_2 (wrap64 (x4_1 - t118))) + 1)) < (rd x3_2 x4_1) then ((impl_Dart_score.f ((rd_T43 t106 x21_2).f0) ((rd_T43 t106 x21_2).f1)).bind fun t121 => (if 0 ≤ (wrap64 (x4_1 - t121)) then (if (wrap64 (x4_1 - t121)) < (x3_2.length : Int) then (fewP.l1 k2 a0 (x3_2.set (x4_1 : Int).toNat (wrap64 ((rd x3_2 (wrap64 (x4_1 - t121))) + 1))) x4_1 t106 (t106.length : Int) (wrap64 (x21_2 + 1))) else (none)) else (none))) else (fewP.l1 k2 a0 x3_2 x4_1 t106 (t106.length : Int) (wrap64 (x21_2 + 1)))) else (none)) else (none)) = some r := H; have A42 := a_ A420; clear A420; obtain ⟨ji43, hji43⟩ : ∃ j_ : Int, (wrap64 (x4_1 - t118)) = j_ := ⟨_, rfl⟩; replace H : (if 0 ≤ (ji43) then (if (ji43) < (x3_2.length : Int) then (if (wrap64 ((rd x3_2 (ji43)) + 1)) < (rd x3_2 x4_1) then ((impl_Dart_score.f ((rd_T43 t106 x21_2).f0) ((rd_T43 t106 x21_2).f1)).bind fun t121 => (if 0 ≤ (wrap64 (x4_1 - t121)) then (if (wrap64 (x4_1 - t121)) < (x3_2.length : Int) then (fewP.l1 k2 a0 (x3_2.set (x4_1 : Int).toNat (wrap64 ((rd x3_2 (wrap64 (x4_1 - t121))) + 1))) x4_1 t106 (t106.length : Int) (wrap64 (x21_2 + 1))) else (none)) else (none))) else (fewP.l1 k2 a0 x3_2 x4_1 t106 (t106.length : Int) (wrap64 (x21_2 + 1)))) else (none)) else (none)) = some r := by first | (rw [hji43] at H; exact H) | (simp only [hji43] at H ⊢; exact H)
                   (try rw [hji43] at A17)
                   (try rw [hji43] at A19)
                   (try rw [hji43] at A42)
                   have hji43w : (IntKind.i64.wrap (x4_1 - t118)) = ji43 := (i64_w _).trans hji43
                   by_cases c44 : 0 ≤ (ji43)
                   ·
                    rw [if_pos c44] at H; have c44b0 : decide (0 ≤ (ji43)) = true := decide_eq_true c44; clear c44
                    by_cases c45 : (ji43) < (x3_2.length : Int)
                    ·
                     rw [if_pos c45] at H; have c45b0 : decide ((ji43) < (x3_2.length : Int)) = true := decide_eq_true c45; clear c45
                     by_cases c46 : (wrap64 ((rd x3_2 (ji43)) + 1)) < (rd x3_2 x4_1)
                     ·
                      rw [if_pos c46] at H; have c46b0 : decide ((wrap64 ((rd x3_2 (ji43)) + 1)) < (rd x3_2 x4_1)) = true := decide_eq_true c46; clear c46; replace H := Option.bind_eq_some_iff.mp H; obtain ⟨t121, A470, H⟩ := H; replace H : (if 0 ≤ (wrap64 (x4_1 - t121)) then (if (wrap64 (x4_1 - t121)) < (x3_2.length : Int) then (fewP.l1 k2 a0 (x3_2.set (x4_1 : Int).toNat (wrap64 ((rd x3_2 (wrap64 (x4_1 - t121))) + 1))) x4_1 t106 (t106.length : Int) (wrap64 (x21_2 + 1))) else (none)) else (none)) = some r := H; have A47 := a_ A470; clear A470; obtain ⟨ji48, hji48⟩ : ∃ j_ : Int, (wrap64 (x4_1 - t121)) = j_ := ⟨_, rfl⟩; replace H : (if 0 ≤ (ji48) then (if (ji48) < (x3_2.length : Int) then (fewP.l1 k2 a0 (x3_2.set (x4_1 : Int).toNat (wrap64 ((rd x3_2 (ji48)) + 1))) x4_1 t106 (t106.length : Int) (wrap64 (x21_2 + 1))) else (none)) else (none)) = some r := by first | (rw [hji48] at H; exact H) | (simp only [hji48] at H ⊢; exact H)
                      (try rw [hji48] at A17)
                      (try rw [hji48] at A19)
                      (try rw [hji48] at A42)
                      (try rw [hji48] at A47)
                      have hji48w : (IntKind.i64.wrap (x4_1 - t121)) = ji48 := (i64_w _).trans hji48
                      by_cases c49 : 0 ≤ (ji48)
                      ·
                       rw [if_pos c49] at H; have c49b0 : decide (0 ≤ (ji48)) = true := decide_eq_true c49; clear c49
                       by_cases c50 : (ji48) < (x3_2.length : Int)
                       ·
                        rw [if_pos c50] at H; have c50b0 : decide ((ji48) < (x3_2.length : Int)) = true := decide_eq_true c50; clear c50; obtain ⟨y123, hy123⟩ : ∃ y_ : List Int, y_ = (x3_2.set (x4_1 : Int).toNat (wrap64 ((rd x3_2 (ji48)) + 1))) := ⟨_, rfl⟩; replace H : (fewP.l1 k2 a0 y123 x4_1 t106 (t106.length : Int) (wrap64 (x21_2 + 1))) = some r := by first | (rw [hy123]; with_reducible exact H) | (have H2_ := (Option.bind_some _ _).symm.trans H; rw [hy123]; with_reducible exact H2_) | (have H2_ := (Option.bind_some _ _).symm.trans H; with_reducible exact H2_) | with_reducible exact H | (rw [hy123]; exact H) | exact H
                        have Ny123 := a_ hy123; clear hy123; have H' := a_ H; clear H; have p109 : 0 ≤ (x21_2 : Int) := of_decide_eq_true t0_; have q109 : x21_2 < (t106.length : Int) := of_decide_eq_true t0_; obtain ⟨ad109, e109, hx109_0, hx109_1⟩ := at_T43 (Kd.R_reads' HO_19.out).2.2 x21_2 p109 q109
                        cases e109
                        replace p109 := eq_true p109; replace q109 := eq_true q109
                        try go_wp2_with (first | ((with_reducible refine gate_dst (N := 6) rfl ?_); refine box_event ?hg (N := 6) ?hd (cs := #[.int .i64 0, .int .i64 0]) (t := 43) ?hr ?_; (case hd => rfl); (case hg => rfl); (case hr => first | (go_simp; done) | (go_simp; rfl)); intro gb110 hg w52 hbox hb; have n0_ := a_ (Kd.R_below (R_ HO_3.out) hb); have n1_ := a_ (Kd.R_below (Kd.R_elderB (R_ HO_19.out) gb110 (Nat.le_of_eq hg.symm)) hb); have n2_ := a_ (below_step (L_ HB.out (Nat.le_refl _) (Nat.le_refl _) (Nat.le_refl _)) hb); have n3_ := a_ (hbox); have n4_ := a_ ((by rw [hg]; exact (below_size (L_ HB.out (Nat.le_refl _) (Nat.le_refl _) (Nat.le_refl _))) : w.heap.size ≤ gb110)); have n5_ := a_ ((by rw [hg]; exact (below_size (L_ HB.out (Nat.le_refl _) (Nat.le_refl _) (Nat.le_refl _))) : w.heap.size ≤ gb110)); clear HO_3; clear HO_19; clear HB; have HO_3 := n0_; have HO_19 := n1_; have HB := n2_; have BK110 := n3_; have GW110 := n4_; have GE110 := n5_; clear n0_ n1_ n2_ n3_ n4_ n5_; clear hb hbox hg; have hcz53_0 : w52.cell? ⟨gb110, 0, none⟩ = some (.int .i64 0) := c_ BK110.out 0; have hcz53_1 : w52.cell? ⟨gb110, 1, none⟩ = some (.int .i64 0) := c_ BK110.out 1; have hfz53_0 := blk_frozen BK110.out 0; have hfz53_1 := blk_frozen BK110.out 1))
                        have n0_ : Aside0 (Kd.R (Kd.int .i64) 3 ((w52.setCell ⟨gb110, 0, none⟩ (.int .i64 ((rd_T43 t106 x21_2).f0))).setCell ⟨gb110, 1, none⟩ (.int .i64 ((rd_T43 t106 x21_2).f1))) w.heap.size (fun _ => True) (.slice (some ⟨go8, 0, none⟩) x3_2.length co8) x3_2) := ⟨t12_⟩; have n1_ : Aside0 (Kd.R k43 43 ((w52.setCell ⟨gb110, 0, none⟩ (.int .i64 ((rd_T43 t106 x21_2).f0))).setCell ⟨gb110, 1, none⟩ (.int .i64 ((rd_T43 t106 x21_2).f1))) w.heap.size (fun k_ => k_ ≠ gb110) (.slice (some ad109) t106.length co13) t106) := ⟨t9_⟩; have n2_ : Aside0 (((w52.setCell ⟨gb110, 0, none⟩ (.int .i64 ((rd_T43 t106 x21_2).f0))).setCell ⟨gb110, 1, none⟩ (.int .i64 ((rd_T43 t106 x21_2).f1))).heap[gb110]? = some (.cells #[.int .i64 ((rd_T43 t106 x21_2).f0), .int .i64 ((rd_T43 t106 x21_2).f1)] 43 (0, 0))) := ⟨t11_⟩; have n3_ : Aside0 (Below w.heap.size w ((w52.setCell ⟨gb110, 0, none⟩ (.int .i64 ((rd_T43 t106 x21_2).f0))).setCell ⟨gb110, 1, none⟩ (.int .i64 ((rd_T43 t106 x21_2).f1)))) := ⟨L_ HB.out GE110.out GE110.out GE110.out⟩
                        (try clear HO_3)
                        (try clear HO_19)
                        (try clear BK110)
                        (try clear HB)
                        generalize ((w52.setCell ⟨gb110, 0, none⟩ (.int .i64 ((rd_T43 t106 x21_2).f0))).setCell ⟨gb110, 1, none⟩ (.int .i64 ((rd_T43 t106 x21_2).f1))) = w54 at n0_ n1_ n2_ n3_ ⊢; have HO_3 := n0_; have HO_19 := n1_; have BK110 := n2_; have HB := n3_; clear n0_ n1_ n2_ n3_; have n0_ := a_ (Kd.R_drew HO_3.out); have n1_ := a_ (Kd.R_drew HO_19.out); have n2_ := a_ (blk_drew BK110.out); have n3_ := a_ (below_drew1 HB.out); clear HO_3; clear HO_19; clear BK110; clear HB; have HO_3 := n0_; have HO_19 := n1_; have BK110 := n2_; have HB := n3_; clear n0_ n1_ n2_ n3_; have p113 : 0 ≤ ((ji20) : Int) := of_decide_eq_true t0_; have q113 : (ji20) < (x3_2.length : Int) := of_decide_eq_true t0_; obtain ⟨ad113, e113, hx113_0⟩ := Kd.at_int (Kd.R_reads' HO_3.out).2.2 (ji20) p113 q113; obtain rfl : (⟨go8, 0, none⟩ : Addr) = ad113 := (by injection e113)
                        (first | simp only [add_plain] at hx113_0 | simp only [add_at] at hx113_0 | simp only [Addr.add, Nat.zero_add] at hx113_0 | skip)
                        replace p113 := eq_true p113; replace q113 := eq_true q113; have p114 : 0 ≤ (x4_1 : Int) := of_decide_eq_true t0_; have q114 : x4_1 < (x3_2.length : Int) := of_decide_eq_true t0_; obtain ⟨ad114, e114, hx114_0⟩ := Kd.at_int (Kd.R_reads' HO_3.out).2.2 x4_1 p114 q114; obtain rfl : (⟨go8, 0, none⟩ : Addr) = ad114 := (by injection e114)
                        (first | simp only [add_plain] at hx114_0 | simp only [add_at] at hx114_0 | simp only [Addr.add, Nat.zero_add] at hx114_0 | skip)
                        replace p114 := eq_true p114; replace q114 := eq_true q114; have p119 : 0 ≤ ((ji43) : Int) := of_decide_eq_true t0_; have q119 : (ji43) < (x3_2.length : Int) := of_decide_eq_true t0_; obtain ⟨ad119, e119, hx119_0⟩ := Kd.at_int (Kd.R_reads' HO_3.out).2.2 (ji43) p119 q119; obtain rfl : (⟨go8, 0, none⟩ : Addr) = ad119 := (by injection e119)
                        (first | simp only [add_plain] at hx119_0 | simp only [add_at] at hx119_0 | simp only [Addr.add, Nat.zero_add] at hx119_0 | skip)
                        replace p119 := eq_true p119; replace q119 := eq_true q119; have p120 : 0 ≤ (x4_1 : Int) := of_decide_eq_true t0_; have q120 : x4_1 < (x3_2.length : Int) := of_decide_eq_true t0_; obtain ⟨ad120, e120, hx120_0⟩ := Kd.at_int (Kd.R_reads' HO_3.out).2.2 x4_1 p120 q120; obtain rfl : (⟨go8, 0, none⟩ : Addr) = ad120 := (by injection e120)
                        (first | simp only [add_plain] at hx120_0 | simp only [add_at] at hx120_0 | simp only [Addr.add, Nat.zero_add] at hx120_0 | skip)
                        replace p120 := eq_true p120; replace q120 := eq_true q120
                        refine start_ (n := 36) (S := fun w' => w'.cell? ⟨gb110, 0, none⟩ = some (.int .i64 ((rd_T43 t106 x21_2).f0)) ∧ w'.cell? ⟨gb110, 1, none⟩ = some (.int .i64 ((rd_T43 t106 x21_2).f1)) ∧ w'.cell? ⟨go8, ((ji20)).toNat, none⟩ = some (.int .i64 (rd x3_2 (ji20))) ∧ w'.cell? ⟨go8, (x4_1).toNat, none⟩ = some (.int .i64 (rd x3_2 x4_1)) ∧ w'.cell? ⟨go8, ((ji43)).toNat, none⟩ = some (.int .i64 (rd x3_2 (ji43))) ∧ w'.cell? ⟨go8, (x4_1).toNat, none⟩ = some (.int .i64 (rd x3_2 x4_1))) (ds := []) #[false, false, false, false, false, false, false, false, false, false, false, false, false, false, false, false, false, false, false, false, false, false, false, false, false, false, false, false, false, false, false, false, false, false, false, false] t1_ rfl rfl ⟨c_ BK110.out 0, c_ BK110.out 1, hx113_0, hx114_0, hx119_0, hx120_0⟩ (fun hHeld => ?_); refine with_tabW fewP.tab9 fewP.bits9 (fun HT_ HW_ => ?_)
                        generalize w54.drew = w55 at HO_3 HO_19 BK110 HB hx113_0 hx114_0 hx119_0 hx120_0 hHeld ⊢
                        refine pure_ (i := 2) (N := some 27) (v := ?_) (a' := ?_) #[false, false, true, false, false, false, false, false, false, false, false, false, false, false, false, false, false, false, false, false, false, false, false, false, false, false, false, false, false, false, false, false, false, false, false, false] rfl rfl (any_of HT_.out t1_) (fun _ _ _ h => h) (Or.inl ⟨by rfl, ?_⟩) ?_ ?_
                        rotate_left
                        ·
                         intro w'
                         go_simp
                         with_reducible rfl
                        rotate_left
                        ·
                         simp only [Act.put, List.setIfInBounds_toArray, List.set_cons_zero, List.set_cons_succ, i64_w, i32_w]
                         rfl
                        refine take_ (i := 0) (N := some 25) (v := ?_) (a' := ?_) #[true, false, true, false, false, false, false, false, false, false, false, false, false, false, false, false, false, false, false, false, false, false, false, false, false, false, false, false, false, false, false, false, false, false, false, false] rfl rfl (take_ofW HT_.out HW_.out t1_) (fun _ _ _ h => h) (Or.inl ⟨by rfl, ?_⟩) hHeld ?_ ?_
                        rotate_left
                        ·
                         rintro w' ⟨s0, s1, s2, s3, s4, s5⟩
                         go_simp
                         with_reducible rfl
                        rotate_left
                        ·
                         simp only [Act.put, List.setIfInBounds_toArray, List.set_cons_zero, List.set_cons_succ, i64_w, i32_w]
                         rfl
                        refine one_ (i := 1) (N := some 26) #[true, true, true, false, false, false, false, false, false, false, false, false, false, false, false, false, false, false, false, false, false, false, false, false, false, false, false, false, false, false, false, false, false, false, false, false] rfl rfl (one_of HT_.out t1_) t29_ (fun K hK => ?_)
                        refine goes_ Try.func36 t1_ rfl #[.agg #[.int .i64 ((rd_T43 t106 x21_2).f0), .int .i64 ((rd_T43 t106 x21_2).f1)]] (by rfl) rfl rfl (by (try simp only [m1_, m2_, m3_]); first | done | rfl) ?_
                        with_reducible refine (impl_Dart_score.calls ((rd_T43 t106 x21_2).f0) ((rd_T43 t106 x21_2).f1) t111 _ A17.out).mono ?_
                        rintro e w56 ⟨rfl, hb⟩; have HS2_ := (hb.cell (World.block_lt_of_cell? _ _ (hHeld.2.2.1))).trans (hHeld.2.2.1); have HS3_ := (hb.cell (World.block_lt_of_cell? _ _ (hHeld.2.2.2.1))).trans (hHeld.2.2.2.1); have HS4_ := (hb.cell (World.block_lt_of_cell? _ _ (hHeld.2.2.2.2.1))).trans (hHeld.2.2.2.2.1); have HS5_ := (hb.cell (World.block_lt_of_cell? _ _ (hHeld.2.2.2.2.2))).trans (hHeld.2.2.2.2.2)
                        refine ⟨_, rfl, ?_⟩
                        have n0_ := a_ (Kd.R_below (R_ HO_3.out) hb); have n1_ := a_ (Kd.R_below (R_ HO_19.out) hb); have n2_ := bb_ BK110 hb; have n3_ := a_ (below_step (L_ HB.out GE110.out GE110.out GE110.out) hb); clear HO_3; clear HO_19; clear BK110; clear HB; have HO_3 := n0_; have HO_19 := n1_; have BK110 := n2_; have HB := n3_; clear n0_ n1_ n2_ n3_
                        (try clear hb)
                        (try clear hb2)
                        (try clear hk)
                        (try clear hi)
                        refine hK.out _ _ ⟨c_ BK110.out 0, c_ BK110.out 1, HS2_, HS3_, HS4_, HS5_⟩ (fun hHeld => ?_)
                        clear hK K
                        refine norm_ (a' := ?_) ?_ ?_
                        rotate_left
                        ·
                         show Act.put _ (some 26) _ = _
                         simp only [Act.put, List.setIfInBounds_toArray, List.set_cons_zero, List.set_cons_succ, i64_w, i32_w]
                         rfl
                        refine pure_ (i := 3) (N := some 28) (v := ?_) (a' := ?_) #[true, true, true, true, false, false, false, false, false, false, false, false, false, false, false, false, false, false, false, false, false, false, false, false, false, false, false, false, false, false, false, false, false, false, false, false] rfl rfl (any_of HT_.out t1_) (fun _ _ _ h => h) (Or.inl ⟨by rfl, ?_⟩) ?_ ?_
                        rotate_left
                        ·
                         intro w'
                         go_simp
                         with_reducible rfl
                        rotate_left
                        ·
                         simp only [Act.put, List.setIfInBounds_toArray, List.set_cons_zero, List.set_cons_succ, i64_w, i32_w]
                         rfl
                        refine pure_ (i := 4) (N := some 29) (v := ?_) (a' := ?_) #[true, true, true, true, true, false, false, false, false, false, false, false, false, false, false, false, false, false, false, false, false, false, false, false, false, false, false, false, false, false, false, false, false, false, false, false] rfl rfl (any_of HT_.out t1_) (fun _ _ _ h => h) (Or.inl ⟨by rfl, ?_⟩) ?_ ?_
                        rotate_left
                        ·
                         intro w'
                         go_simp
                         with_reducible rfl
                        rotate_left
                        ·
                         simp only [Act.put, List.setIfInBounds_toArray, List.set_cons_zero, List.set_cons_succ, i64_w, i32_w]
                         rfl
                        refine pure_ (i := 5) (N := some 30) (v := ?_) (a' := ?_) #[true, true, true, true, true, true, false, false, false, false, false, false, false, false, false, false, false, false, false, false, false, false, false, false, false, false, false, false, false, false, false, false, false, false, false, false] rfl rfl (any_of HT_.out t1_) (fun _ _ _ h => h) (Or.inl ⟨by rfl, ?_⟩) ?_ ?_
                        rotate_left
                        ·
                         intro w'
                         go_simp
                         with_reducible rfl
                        rotate_left
                        ·
                         simp only [Act.put, List.setIfInBounds_toArray, List.set_cons_zero, List.set_cons_succ, i64_w, i32_w]
                         rfl
                        refine pure_ (i := 6) (N := some 31) (v := ?_) (a' := ?_) #[true, true, true, true, true, true, true, false, false, false, false, false, false, false, false, false, false, false, false, false, false, false, false, false, false, false, false, false, false, false, false, false, false, false, false, false] rfl rfl (any_of HT_.out t1_) (fun _ _ _ h => h) (Or.inl ⟨by rfl, ?_⟩) ?_ ?_
                        rotate_left
                        ·
                         intro w'
                         go_simp
                         with_reducible rfl
                        rotate_left
                        ·
                         simp only [Act.put, List.setIfInBounds_toArray, List.set_cons_zero, List.set_cons_succ, i64_w, i32_w]
                         rfl
                        refine take_ (i := 7) (N := some 32) (v := ?_) (a' := ?_) #[true, true, true, true, true, true, true, true, false, false, false, false, false, false, false, false, false, false, false, false, false, false, false, false, false, false, false, false, false, false, false, false, false, false, false, false] rfl rfl (take_ofW HT_.out HW_.out t1_) (fun _ _ _ h => h) (Or.inl ⟨by rfl, ?_⟩) hHeld ?_ ?_
                        rotate_left
                        ·
                         rintro w' ⟨s0, s1, s2, s3, s4, s5⟩
                         go_simp
                         with_reducible rfl
                        rotate_left
                        ·
                         simp only [Act.put, List.setIfInBounds_toArray, List.set_cons_zero, List.set_cons_succ, i64_w, i32_w]
                         rfl
                        refine one_ (i := 8) (N := some 33) #[true, true, true, true, true, true, true, true, true, false, false, false, false, false, false, false, false, false, false, false, false, false, false, false, false, false, false, false, false, false, false, false, false, false, false, false] rfl rfl (one_of HT_.out t1_) t29_ (fun K hK => ?_)
                        refine goes_ Try.func36 t1_ rfl #[.agg #[.int .i64 ((rd_T43 t106 x21_2).f0), .int .i64 ((rd_T43 t106 x21_2).f1)]] (by rfl) rfl rfl (by (try simp only [m1_, m2_, m3_]); first | done | rfl) ?_
                        with_reducible refine (impl_Dart_score.calls ((rd_T43 t106 x21_2).f0) ((rd_T43 t106 x21_2).f1) t112 _ A19.out).mono ?_
                        rintro e w57 ⟨rfl, hb⟩; have HS2_ := (hb.cell (World.block_lt_of_cell? _ _ (hHeld.2.2.1))).trans (hHeld.2.2.1); have HS3_ := (hb.cell (World.block_lt_of_cell? _ _ (hHeld.2.2.2.1))).trans (hHeld.2.2.2.1); have HS4_ := (hb.cell (World.block_lt_of_cell? _ _ (hHeld.2.2.2.2.1))).trans (hHeld.2.2.2.2.1); have HS5_ := (hb.cell (World.block_lt_of_cell? _ _ (hHeld.2.2.2.2.2))).trans (hHeld.2.2.2.2.2)
                        refine ⟨_, rfl, ?_⟩
                        have n0_ := a_ (Kd.R_below (R_ HO_3.out) hb); have n1_ := a_ (Kd.R_below (R_ HO_19.out) hb); have n2_ := bb_ BK110 hb; have n3_ := a_ (below_step (L_ HB.out GE110.out GE110.out GE110.out) hb); clear HO_3; clear HO_19; clear BK110; clear HB; have HO_3 := n0_; have HO_19 := n1_; have BK110 := n2_; have HB := n3_; clear n0_ n1_ n2_ n3_
                        (try clear hb)
                        (try clear hb2)
                        (try clear hk)
                        (try clear hi)
                        refine hK.out _ _ ⟨c_ BK110.out 0, c_ BK110.out 1, HS2_, HS3_, HS4_, HS5_⟩ (fun hHeld => ?_)
                        clear hK K
                        refine norm_ (a' := ?_) ?_ ?_
                        rotate_left
                        ·
                         show Act.put _ (some 33) _ = _
                         simp only [Act.put, List.setIfInBounds_toArray, List.set_cons_zero, List.set_cons_succ, i64_w, i32_w]
                         rfl
                        refine pure_ (i := 9) (N := some 34) (v := ?_) (a' := ?_) #[true, true, true, true, true, true, true, true, true, true, false, false, false, false, false, false, false, false, false, false, false, false, false, false, false, false, false, false, false, false, false, false, false, false, false, false] rfl rfl (any_of HT_.out t1_) (fun _ _ _ h => h) (Or.inl ⟨by rfl, ?_⟩) ?_ ?_
                        rotate_left
                        ·
                         intro w'
                         go_simp
                         with_reducible rfl
                        rotate_left
                        ·
                         simp only [Act.put, List.setIfInBounds_toArray, List.set_cons_zero, List.set_cons_succ, i64_w, i32_w]
                         rfl
                        refine pure_ (i := 10) (N := some 35) (v := ?_) (a' := ?_) #[true, true, true, true, true, true, true, true, true, true, true, false, false, false, false, false, false, false, false, false, false, false, false, false, false, false, false, false, false, false, false, false, false, false, false, false] rfl rfl (any_of HT_.out t1_) (fun _ _ _ h => h) (Or.inl ⟨by rfl, ?_⟩) ?_ ?_
                        rotate_left
                        ·
                         intro w'
                         go_simp
                         with_reducible rfl
                        rotate_left
                        ·
                         simp only [Act.put, List.setIfInBounds_toArray, List.set_cons_zero, List.set_cons_succ, i64_w, i32_w]
                         rfl
                        refine take_ (i := 11) (N := some 36) (v := ?_) (a' := ?_) #[true, true, true, true, true, true, true, true, true, true, true, true, false, false, false, false, false, false, false, false, false, false, false, false, false, false, false, false, false, false, false, false, false, false, false, false] rfl rfl (take_ofW HT_.out HW_.out t1_) (fun _ _ _ h => h) (Or.inl ⟨by rfl, ?_⟩) hHeld ?_ ?_
                        rotate_left
                        ·
                         rintro w' ⟨s0, s1, s2, s3, s4, s5⟩
                         go_simp
                         with_reducible rfl
                        rotate_left
                        ·
                         simp only [Act.put, List.setIfInBounds_toArray, List.set_cons_zero, List.set_cons_succ, i64_w, i32_w]
                         rfl
                        refine pure_ (i := 12) (N := some 37) (v := ?_) (a' := ?_) #[true, true, true, true, true, true, true, true, true, true, true, true, true, false, false, false, false, false, false, false, false, false, false, false, false, false, false, false, false, false, false, false, false, false, false, false] rfl rfl (any_of HT_.out t1_) (fun _ _ _ h => h) (Or.inl ⟨by rfl, ?_⟩) ?_ ?_
                        rotate_left
                        ·
                         intro w'
                         go_simp
                         with_reducible rfl
                        rotate_left
                        ·
                         simp only [Act.put, List.setIfInBounds_toArray, List.set_cons_zero, List.set_cons_succ, i64_w, i32_w]
                         rfl
                        refine pure_ (i := 13) (N := some 38) (v := ?_) (a' := ?_) #[true, true, true, true, true, true, true, true, true, true, true, true, true, true, false, false, false, false, false, false, false, false, false, false, false, false, false, false, false, false, false, false, false, false, false, false] rfl rfl (any_of HT_.out t1_) (fun _ _ _ h => h) (Or.inl ⟨by rfl, ?_⟩) ?_ ?_
                        rotate_left
                        ·
                         intro w'
                         go_simp
                         with_reducible rfl
                        rotate_left
                        ·
                         simp only [Act.put, List.setIfInBounds_toArray, List.set_cons_zero, List.set_cons_succ, i64_w, i32_w]
                         rfl
                        refine pure_ (i := 14) (N := some 39) (v := ?_) (a' := ?_) #[true, true, true, true, true, true, true, true, true, true, true, true, true, true, true, false, false, false, false, false, false, false, false, false, false, false, false, false, false, false, false, false, false, false, false, false] rfl rfl (any_of HT_.out t1_) (fun _ _ _ h => h) (Or.inl ⟨by rfl, ?_⟩) ?_ ?_
                        rotate_left
                        ·
                         intro w'
                         go_simp
                         with_reducible rfl
                        rotate_left
                        ·
                         simp only [Act.put, List.setIfInBounds_toArray, List.set_cons_zero, List.set_cons_succ, i64_w, i32_w]
                         rfl
                        refine pure_ (i := 15) (N := some 40) (v := ?_) (a' := ?_) #[true, true, true, true, true, true, true, true, true, true, true, true, true, true, true, true, false, false, false, false, false, false, false, false, false, false, false, false, false, false, false, false, false, false, false, false] rfl rfl (any_of HT_.out t1_) (fun _ _ _ h => h) (Or.inl ⟨by rfl, ?_⟩) ?_ ?_
                        rotate_left
                        ·
                         intro w'
                         go_simp
                         with_reducible rfl
                        rotate_left
                        ·
                         simp only [Act.put, List.setIfInBounds_toArray, List.set_cons_zero, List.set_cons_succ, i64_w, i32_w]
                         rfl
                        refine pure_ (i := 16) (N := some 41) (v := ?_) (a' := ?_) #[true, true, true, true, true, true, true, true, true, true, true, true, true, true, true, true, true, false, false, false, false, false, false, false, false, false, false, false, false, false, false, false, false, false, false, false] rfl rfl (any_of HT_.out t1_) (fun _ _ _ h => h) (Or.inl ⟨by rfl, ?_⟩) ?_ ?_
                        rotate_left
                        ·
                         intro w'
                         go_simp
                         with_reducible rfl
                        rotate_left
                        ·
                         simp only [Act.put, List.setIfInBounds_toArray, List.set_cons_zero, List.set_cons_succ, i64_w, i32_w]
                         rfl
                        refine pure_ (i := 17) (N := some 42) (v := ?_) (a' := ?_) #[true, true, true, true, true, true, true, true, true, true, true, true, true, true, true, true, true, true, false, false, false, false, false, false, false, false, false, false, false, false, false, false, false, false, false, false] rfl rfl (any_of HT_.out t1_) (fun _ _ _ h => h) (Or.inl ⟨by rfl, ?_⟩) ?_ ?_
                        rotate_left
                        ·
                         intro w'
                         go_simp
                         with_reducible rfl
                        rotate_left
                        ·
                         simp only [Act.put, List.setIfInBounds_toArray, List.set_cons_zero, List.set_cons_succ, i64_w, i32_w]
                         rfl
                        refine take_ (i := 18) (N := some 43) (v := ?_) (a' := ?_) #[true, true, true, true, true, true, true, true, true, true, true, true, true, true, true, true, true, true, true, false, false, false, false, false, false, false, false, false, false, false, false, false, false, false, false, false] rfl rfl (take_ofW HT_.out HW_.out t1_) (fun _ _ _ h => h) (Or.inl ⟨by rfl, ?_⟩) hHeld ?_ ?_
                        rotate_left
                        ·
                         rintro w' ⟨s0, s1, s2, s3, s4, s5⟩
                         go_simp
                         with_reducible rfl
                        rotate_left
                        ·
                         simp only [Act.put, List.setIfInBounds_toArray, List.set_cons_zero, List.set_cons_succ, i64_w, i32_w]
                         rfl
                        refine pure_ (i := 19) (N := some 44) (v := ?_) (a' := ?_) #[true, true, true, true, true, true, true, true, true, true, true, true, true, true, true, true, true, true, true, true, false, false, false, false, false, false, false, false, false, false, false, false, false, false, false, false] rfl rfl (any_of HT_.out t1_) (fun _ _ _ h => h) (Or.inl ⟨by rfl, ?_⟩) ?_ ?_
                        rotate_left
                        ·
                         intro w'
                         go_simp
                         with_reducible rfl
                        rotate_left
                        ·
                         simp only [Act.put, List.setIfInBounds_toArray, List.set_cons_zero, List.set_cons_succ, i64_w, i32_w]
                         rfl
                        refine pure_ (i := 20) (N := some 45) (v := ?_) (a' := ?_) #[true, true, true, true, true, true, true, true, true, true, true, true, true, true, true, true, true, true, true, true, true, false, false, false, false, false, false, false, false, false, false, false, false, false, false, false] rfl rfl (any_of HT_.out t1_) (fun _ _ _ h => h) (Or.inl ⟨by rfl, ?_⟩) ?_ ?_
                        rotate_left
                        ·
                         intro w'
                         go_simp
                         with_reducible rfl
                        rotate_left
                        ·
                         simp only [Act.put, List.setIfInBounds_toArray, List.set_cons_zero, List.set_cons_succ, i64_w, i32_w]
                         rfl
                        refine pure_ (i := 21) (N := some 46) (v := ?_) (a' := ?_) #[true, true, true, true, true, true, true, true, true, true, true, true, true, true, true, true, true, true, true, true, true, true, false, false, false, false, false, false, false, false, false, false, false, false, false, false] rfl rfl (any_of HT_.out t1_) (fun _ _ _ h => h) (Or.inl ⟨by rfl, ?_⟩) ?_ ?_
                        rotate_left
                        ·
                         intro w'
                         go_simp
                         with_reducible rfl
                        rotate_left
                        ·
                         simp only [Act.put, List.setIfInBounds_toArray, List.set_cons_zero, List.set_cons_succ, i64_w, i32_w]
                         rfl
                        refine pure_ (i := 22) (N := some 47) (v := ?_) (a' := ?_) #[true, true, true, true, true, true, true, true, true, true, true, true, true, true, true, true, true, true, true, true, true, true, true, false, false, false, false, false, false, false, false, false, false, false, false, false] rfl rfl (any_of HT_.out t1_) (fun _ _ _ h => h) (Or.inl ⟨by rfl, ?_⟩) ?_ ?_
                        rotate_left
                        ·
                         intro w'
                         go_simp
                         with_reducible rfl
                        rotate_left
                        ·
                         simp only [Act.put, List.setIfInBounds_toArray, List.set_cons_zero, List.set_cons_succ, i64_w, i32_w]
                         rfl
                        refine pure_ (i := 29) (N := some 54) (v := ?_) (a' := ?_) #[true, true, true, true, true, true, true, true, true, true, true, true, true, true, true, true, true, true, true, true, true, true, true, false, false, false, false, false, false, true, false, false, false, false, false, false] rfl rfl (any_of HT_.out t1_) (fun _ _ _ h => h) (Or.inl ⟨by rfl, ?_⟩) ?_ ?_
                        rotate_left
                        ·
                         intro w'
                         go_simp
                         with_reducible rfl
                        rotate_left
                        ·
                         simp only [Act.put, List.setIfInBounds_toArray, List.set_cons_zero, List.set_cons_succ, i64_w, i32_w]
                         rfl
                        refine pure_ (i := 30) (N := some 55) (v := ?_) (a' := ?_) #[true, true, true, true, true, true, true, true, true, true, true, true, true, true, true, true, true, true, true, true, true, true, true, false, false, false, false, false, false, true, true, false, false, false, false, false] rfl rfl (any_of HT_.out t1_) (fun _ _ _ h => h) (Or.inl ⟨by rfl, ?_⟩) ?_ ?_
                        rotate_left
                        ·
                         intro w'
                         go_simp
                         with_reducible rfl
                        rotate_left
                        ·
                         simp only [Act.put, List.setIfInBounds_toArray, List.set_cons_zero, List.set_cons_succ, i64_w, i32_w]
                         rfl
                        refine pure_ (i := 31) (N := some 56) (v := ?_) (a' := ?_) #[true, true, true, true, true, true, true, true, true, true, true, true, true, true, true, true, true, true, true, true, true, true, true, false, false, false, false, false, false, true, true, true, false, false, false, false] rfl rfl (any_of HT_.out t1_) (fun _ _ _ h => h) (Or.inl ⟨by rfl, ?_⟩) ?_ ?_
                        rotate_left
                        ·
                         intro w'
                         go_simp
                         with_reducible rfl
                        rotate_left
                        ·
                         simp only [Act.put, List.setIfInBounds_toArray, List.set_cons_zero, List.set_cons_succ, i64_w, i32_w]
                         rfl
                        refine take_ (i := 23) (N := some 48) (v := ?_) (a' := ?_) #[true, true, true, true, true, true, true, true, true, true, true, true, true, true, true, true, true, true, true, true, true, true, true, true, false, false, false, false, false, true, true, true, false, false, false, false] rfl rfl (take_ofW HT_.out HW_.out t1_) (fun _ _ _ h => h) (Or.inl ⟨by rfl, ?_⟩) hHeld ?_ ?_
                        rotate_left
                        ·
                         rintro w' ⟨s0, s1, s2, s3, s4, s5⟩
                         go_simp
                         with_reducible rfl
                        rotate_left
                        ·
                         simp only [Act.put, List.setIfInBounds_toArray, List.set_cons_zero, List.set_cons_succ, i64_w, i32_w]
                         rfl
                        refine take_ (i := 32) (N := some 57) (v := ?_) (a' := ?_) #[true, true, true, true, true, true, true, true, true, true, true, true, true, true, true, true, true, true, true, true, true, true, true, true, false, false, false, false, false, true, true, true, true, false, false, false] rfl rfl (take_ofW HT_.out HW_.out t1_) (fun _ _ _ h => h) (Or.inl ⟨by rfl, ?_⟩) hHeld ?_ ?_
                        rotate_left
                        ·
                         rintro w' ⟨s0, s1, s2, s3, s4, s5⟩
                         go_simp
                         with_reducible rfl
                        rotate_left
                        ·
                         simp only [Act.put, List.setIfInBounds_toArray, List.set_cons_zero, List.set_cons_succ, i64_w, i32_w]
                         rfl
                        refine one_ (i := 24) (N := some 49) #[true, true, true, true, true, true, true, true, true, true, true, true, true, true, true, true, true, true, true, true, true, true, true, true, true, false, false, false, false, true, true, true, true, false, false, false] rfl rfl (one_of HT_.out t1_) t29_ (fun K hK => ?_)
                        refine goes_ Try.func36 t1_ rfl #[.agg #[.int .i64 ((rd_T43 t106 x21_2).f0), .int .i64 ((rd_T43 t106 x21_2).f1)]] (by rfl) rfl rfl (by (try simp only [m1_, m2_, m3_]); first | done | rfl) ?_
                        with_reducible refine (impl_Dart_score.calls ((rd_T43 t106 x21_2).f0) ((rd_T43 t106 x21_2).f1) t118 _ A42.out).mono ?_
                        rintro e w58 ⟨rfl, hb⟩; have HS2_ := (hb.cell (World.block_lt_of_cell? _ _ (hHeld.2.2.1))).trans (hHeld.2.2.1); have HS3_ := (hb.cell (World.block_lt_of_cell? _ _ (hHeld.2.2.2.1))).trans (hHeld.2.2.2.1); have HS4_ := (hb.cell (World.block_lt_of_cell? _ _ (hHeld.2.2.2.2.1))).trans (hHeld.2.2.2.2.1); have HS5_ := (hb.cell (World.block_lt_of_cell? _ _ (hHeld.2.2.2.2.2))).trans (hHeld.2.2.2.2.2)
                        refine ⟨_, rfl, ?_⟩
                        have n0_ := a_ (Kd.R_below (R_ HO_3.out) hb); have n1_ := a_ (Kd.R_below (R_ HO_19.out) hb); have n2_ := bb_ BK110 hb; have n3_ := a_ (below_step (L_ HB.out GE110.out GE110.out GE110.out) hb); clear HO_3; clear HO_19; clear BK110; clear HB; have HO_3 := n0_; have HO_19 := n1_; have BK110 := n2_; have HB := n3_; clear n0_ n1_ n2_ n3_
                        (try clear hb)
                        (try clear hb2)
                        (try clear hk)
                        (try clear hi)
                        refine hK.out _ _ ⟨c_ BK110.out 0, c_ BK110.out 1, HS2_, HS3_, HS4_, HS5_⟩ (fun hHeld => ?_)
                        clear hK K
                        refine norm_ (a' := ?_) ?_ ?_
                        rotate_left
                        ·
                         show Act.put _ (some 49) _ = _
                         simp only [Act.put, List.setIfInBounds_toArray, List.set_cons_zero, List.set_cons_succ, i64_w, i32_w]
                         rfl
                        refine pure_ (i := 25) (N := some 50) (v := ?_) (a' := ?_) #[true, true, true, true, true, true, true, true, true, true, true, true, true, true, true, true, true, true, true, true, true, true, true, true, true, true, false, false, false, true, true, true, true, false, false, false] rfl rfl (any_of HT_.out t1_) (fun _ _ _ h => h) (Or.inl ⟨by rfl, ?_⟩) ?_ ?_
                        rotate_left
                        ·
                         intro w'
                         go_simp
                         with_reducible rfl
                        rotate_left
                        ·
                         simp only [Act.put, List.setIfInBounds_toArray, List.set_cons_zero, List.set_cons_succ, i64_w, i32_w]
                         rfl
                        refine pure_ (i := 26) (N := some 51) (v := ?_) (a' := ?_) #[true, true, true, true, true, true, true, true, true, true, true, true, true, true, true, true, true, true, true, true, true, true, true, true, true, true, true, false, false, true, true, true, true, false, false, false] rfl rfl (any_of HT_.out t1_) (fun _ _ _ h => h) (Or.inl ⟨by rfl, ?_⟩) ?_ ?_
                        rotate_left
                        ·
                         intro w'
                         go_simp
                         with_reducible rfl
                        rotate_left
                        ·
                         simp only [Act.put, List.setIfInBounds_toArray, List.set_cons_zero, List.set_cons_succ, i64_w, i32_w]
                         rfl
                        refine take_ (i := 27) (N := some 52) (v := ?_) (a' := ?_) #[true, true, true, true, true, true, true, true, true, true, true, true, true, true, true, true, true, true, true, true, true, true, true, true, true, true, true, true, false, true, true, true, true, false, false, false] rfl rfl (take_ofW HT_.out HW_.out t1_) (fun _ _ _ h => h) (Or.inl ⟨by rfl, ?_⟩) hHeld ?_ ?_
                        rotate_left
                        ·
                         rintro w' ⟨s0, s1, s2, s3, s4, s5⟩
                         go_simp
                         with_reducible rfl
                        rotate_left
                        ·
                         simp only [Act.put, List.setIfInBounds_toArray, List.set_cons_zero, List.set_cons_succ, i64_w, i32_w]
                         rfl
                        refine pure_ (i := 28) (N := some 53) (v := ?_) (a' := ?_) #[true, true, true, true, true, true, true, true, true, true, true, true, true, true, true, true, true, true, true, true, true, true, true, true, true, true, true, true, true, true, true, true, true, false, false, false] rfl rfl (any_of HT_.out t1_) (fun _ _ _ h => h) (Or.inl ⟨by rfl, ?_⟩) ?_ ?_
                        rotate_left
                        ·
                         intro w'
                         go_simp
                         with_reducible rfl
                        rotate_left
                        ·
                         simp only [Act.put, List.setIfInBounds_toArray, List.set_cons_zero, List.set_cons_succ, i64_w, i32_w]
                         rfl
                        refine pure_ (i := 33) (N := some 58) (v := ?_) (a' := ?_) #[true, true, true, true, true, true, true, true, true, true, true, true, true, true, true, true, true, true, true, true, true, true, true, true, true, true, true, true, true, true, true, true, true, true, false, false] rfl rfl (any_of HT_.out t1_) (fun _ _ _ h => h) (Or.inl ⟨by rfl, ?_⟩) ?_ ?_
                        rotate_left
                        ·
                         intro w'
                         go_simp
                         with_reducible rfl
                        rotate_left
                        ·
                         simp only [Act.put, List.setIfInBounds_toArray, List.set_cons_zero, List.set_cons_succ, i64_w, i32_w]
                         rfl
                        refine pure_ (i := 34) (N := some 59) (v := ?_) (a' := ?_) #[true, true, true, true, true, true, true, true, true, true, true, true, true, true, true, true, true, true, true, true, true, true, true, true, true, true, true, true, true, true, true, true, true, true, true, false] rfl rfl (any_of HT_.out t1_) (fun _ _ _ h => h) (Or.inl ⟨by rfl, ?_⟩) ?_ ?_
                        rotate_left
                        ·
                         intro w'
                         go_simp
                         with_reducible rfl
                        rotate_left
                        ·
                         simp only [Act.put, List.setIfInBounds_toArray, List.set_cons_zero, List.set_cons_succ, i64_w, i32_w]
                         rfl
                        refine pure_ (i := 35) (N := some 60) (v := ?_) (a' := ?_) #[true, true, true, true, true, true, true, true, true, true, true, true, true, true, true, true, true, true, true, true, true, true, true, true, true, true, true, true, true, true, true, true, true, true, true, true] rfl rfl (any_of HT_.out t1_) (fun _ _ _ h => h) (Or.inl ⟨by rfl, ?_⟩) ?_ ?_
                        rotate_left
                        ·
                         intro w'
                         go_simp
                         with_reducible rfl
                        rotate_left
                        ·
                         simp only [Act.put, List.setIfInBounds_toArray, List.set_cons_zero, List.set_cons_succ, i64_w, i32_w]
                         rfl
                        refine done_ (done_of HT_.out t1_) ?_
                        have hcz59_0 : w58.cell? ⟨gb110, 0, none⟩ = some (.int .i64 ((rd_T43 t106 x21_2).f0)) := c_ BK110.out 0; have hcz59_1 : w58.cell? ⟨gb110, 1, none⟩ = some (.int .i64 ((rd_T43 t106 x21_2).f1)) := c_ BK110.out 1; have hfz59_0 := blk_frozen BK110.out 0; have hfz59_1 := blk_frozen BK110.out 1
                        try go_wp2_with (first | ((with_reducible refine gate_callee (f := 36) rfl ?_); refine goesL_ (some 66) rfl rfl Try.func36 t1_ rfl #[.agg #[.int .i64 ((rd_T43 t106 x21_2).f0), .int .i64 ((rd_T43 t106 x21_2).f1)]] rfl (by (try simp only [m1_, m2_, m3_]); first | done | rfl) ?_; (with_reducible refine (impl_Dart_score.calls ((rd_T43 t106 x21_2).f0) ((rd_T43 t106 x21_2).f1) t121 _ A47.out).mono ?_); rintro e w60 ⟨rfl, hb⟩; refine ⟨_, rfl, ?_⟩; have n0_ := a_ (Kd.R_below (R_ HO_3.out) hb); have n1_ := a_ (Kd.R_below (R_ HO_19.out) hb); have n2_ := bb_ BK110 hb; have n3_ := a_ (below_step (L_ HB.out GE110.out GE110.out GE110.out) hb); clear HO_3; clear HO_19; clear BK110; clear HB; have HO_3 := n0_; have HO_19 := n1_; have BK110 := n2_; have HB := n3_; clear n0_ n1_ n2_ n3_; (try clear hb); (try clear hb2); (try clear hk); (try clear hi); have p122 : 0 ≤ ((ji48) : Int) := of_decide_eq_true t0_; have q122 : (ji48) < (x3_2.length : Int) := of_decide_eq_true t0_; obtain ⟨ad122, e122, hx122_0⟩ := Kd.at_int (Kd.R_reads' HO_3.out).2.2 (ji48) p122 q122; obtain rfl : (⟨go8, 0, none⟩ : Addr) = ad122 := (by injection e122); (first | simp only [add_plain] at hx122_0 | simp only [add_at] at hx122_0 | simp only [Addr.add, Nat.zero_add] at hx122_0 | skip); replace p122 := eq_true p122; replace q122 := eq_true q122; have p51 : 0 ≤ (x4_1 : Int) := of_decide_eq_true t0_; have q51 : (x4_1 : Int) < ((x3_2.length : Int) : Int) := of_decide_eq_true t0_; obtain ⟨hx51_0, hf51_0⟩ := Kd.R_celln 0 HO_3.out (x4_1 : Int) p51 q51; replace p51 := eq_true p51; replace q51 := eq_true q51; obtain ⟨hy61_, hz61_⟩ := Kd.R_celln 0 HO_3.out (x4_1 : Int) (of_decide_eq_true t0_) (of_decide_eq_true t0_); have HP61 := Kd.R_putg HO_3.out (x4_1 : Int) (wrap64 ((rd x3_2 (ji48)) + 1))) | ((with_reducible refine gate_store (t := 3) (p := 71) rfl ?_); refine store_event (t := 3) (p := 71) (v := ?vo_w62) (w1 := (w60.setCell ⟨go8, (x4_1 : Int).toNat, none⟩ (.int .i64 (wrap64 ((rd x3_2 (ji48)) + 1))))) ?hg ?ho ?hn ?hr ?_; (case ho => rfl); (case hg => rfl); (case hn => rfl); (case hr => first | (go_simp; done) | (go_simp; rfl)); intro w62 hw; have hg : w60.grownBy w62 (some go8) := (by rw [hw]; exact HP61.2); have hp_ : Kd.R (Kd.int .i64) 3 w62 w.heap.size (fun _ => True) (.slice (some ⟨go8, 0, none⟩) x3_2.length co8) y123 := (by rw [hw, Ny123.out]; exact HP61.1); clear HP61; have n0_ := a_ (hp_); have n1_ := a_ (Kd.R_over' (v := (.slice (some ⟨go8, 0, none⟩) x3_2.length co8)) (R_ HO_19.out) (Kd.R_typed HO_3.out) t29_ hg); have n2_ := a_ (blk_grown (B_ BK110.out) hg (Kd.R_ne HO_3.out BK110.out t29_)); have n3_ := a_ ((by rw [hw]; exact below_set (HB.out) GB8.out : Below w.heap.size w w62)); clear HO_3; clear HO_19; clear BK110; clear HB; have HO_3 := n0_; have HO_19 := n1_; have BK110 := n2_; have HB := n3_; clear n0_ n1_ n2_ n3_; clear hg hw hp_))
                        (try simp only [← hl3_2])
                        go_roundg k2
                        case measure => have := HK1.out; have := HK2.out; omega
                        case rel => exact ⟨(y123), (wrap64 (x21_2 + 1)), t2_, H', ⟨t41_⟩, ⟨t32_⟩, ⟨t30_⟩, ⟨L_ HB.out GE110.out GE110.out GE110.out⟩⟩
                       ·
                        rw [if_neg c50] at H
                        exact absurd H t31_
                      ·
                       rw [if_neg c49] at H
                       exact absurd H t31_
                     ·
                      rw [if_neg c46] at H; have c46b0 : decide ((wrap64 ((rd x3_2 (ji43)) + 1)) < (rd x3_2 x4_1)) = false := decide_eq_false c46; clear c46; have H' := a_ H; clear H; have p109 : 0 ≤ (x21_2 : Int) := of_decide_eq_true t0_; have q109 : x21_2 < (t106.length : Int) := of_decide_eq_true t0_; obtain ⟨ad109, e109, hx109_0, hx109_1⟩ := at_T43 (Kd.R_reads' HO_19.out).2.2 x21_2 p109 q109
                      cases e109
                      replace p109 := eq_true p109; replace q109 := eq_true q109
                      try go_wp2_with (first | ((with_reducible refine gate_dst (N := 6) rfl ?_); refine box_event ?hg (N := 6) ?hd (cs := #[.int .i64 0, .int .i64 0]) (t := 43) ?hr ?_; (case hd => rfl); (case hg => rfl); (case hr => first | (go_simp; done) | (go_simp; rfl)); intro gb110 hg w63 hbox hb; have n0_ := a_ (Kd.R_below (R_ HO_3.out) hb); have n1_ := a_ (Kd.R_below (Kd.R_elderB (R_ HO_19.out) gb110 (Nat.le_of_eq hg.symm)) hb); have n2_ := a_ (below_step (L_ HB.out (Nat.le_refl _) (Nat.le_refl _) (Nat.le_refl _)) hb); have n3_ := a_ (hbox); have n4_ := a_ ((by rw [hg]; exact (below_size (L_ HB.out (Nat.le_refl _) (Nat.le_refl _) (Nat.le_refl _))) : w.heap.size ≤ gb110)); have n5_ := a_ ((by rw [hg]; exact (below_size (L_ HB.out (Nat.le_refl _) (Nat.le_refl _) (Nat.le_refl _))) : w.heap.size ≤ gb110)); clear HO_3; clear HO_19; clear HB; have HO_3 := n0_; have HO_19 := n1_; have HB := n2_; have BK110 := n3_; have GW110 := n4_; have GE110 := n5_; clear n0_ n1_ n2_ n3_ n4_ n5_; clear hb hbox hg; have hcz64_0 : w63.cell? ⟨gb110, 0, none⟩ = some (.int .i64 0) := c_ BK110.out 0; have hcz64_1 : w63.cell? ⟨gb110, 1, none⟩ = some (.int .i64 0) := c_ BK110.out 1; have hfz64_0 := blk_frozen BK110.out 0; have hfz64_1 := blk_frozen BK110.out 1))
                      have n0_ : Aside0 (Kd.R (Kd.int .i64) 3 ((w63.setCell ⟨gb110, 0, none⟩ (.int .i64 ((rd_T43 t106 x21_2).f0))).setCell ⟨gb110, 1, none⟩ (.int .i64 ((rd_T43 t106 x21_2).f1))) w.heap.size (fun _ => True) (.slice (some ⟨go8, 0, none⟩) x3_2.length co8) x3_2) := ⟨t12_⟩; have n1_ : Aside0 (Kd.R k43 43 ((w63.setCell ⟨gb110, 0, none⟩ (.int .i64 ((rd_T43 t106 x21_2).f0))).setCell ⟨gb110, 1, none⟩ (.int .i64 ((rd_T43 t106 x21_2).f1))) w.heap.size (fun k_ => k_ ≠ gb110) (.slice (some ad109) t106.length co13) t106) := ⟨t9_⟩; have n2_ : Aside0 (((w63.setCell ⟨gb110, 0, none⟩ (.int .i64 ((rd_T43 t106 x21_2).f0))).setCell ⟨gb110, 1, none⟩ (.int .i64 ((rd_T43 t106 x21_2).f1))).heap[gb110]? = some (.cells #[.int .i64 ((rd_T43 t106 x21_2).f0), .int .i64 ((rd_T43 t106 x21_2).f1)] 43 (0, 0))) := ⟨t11_⟩; have n3_ : Aside0 (Below w.heap.size w ((w63.setCell ⟨gb110, 0, none⟩ (.int .i64 ((rd_T43 t106 x21_2).f0))).setCell ⟨gb110, 1, none⟩ (.int .i64 ((rd_T43 t106 x21_2).f1)))) := ⟨L_ HB.out GE110.out GE110.out GE110.out⟩
                      (try clear HO_3)
                      (try clear HO_19)
                      (try clear BK110)
                      (try clear HB)
                      generalize ((w63.setCell ⟨gb110, 0, none⟩ (.int .i64 ((rd_T43 t106 x21_2).f0))).setCell ⟨gb110, 1, none⟩ (.int .i64 ((rd_T43 t106 x21_2).f1))) = w65 at n0_ n1_ n2_ n3_ ⊢; have HO_3 := n0_; have HO_19 := n1_; have BK110 := n2_; have HB := n3_; clear n0_ n1_ n2_ n3_; have n0_ := a_ (Kd.R_drew HO_3.out); have n1_ := a_ (Kd.R_drew HO_19.out); have n2_ := a_ (blk_drew BK110.out); have n3_ := a_ (below_drew1 HB.out); clear HO_3; clear HO_19; clear BK110; clear HB; have HO_3 := n0_; have HO_19 := n1_; have BK110 := n2_; have HB := n3_; clear n0_ n1_ n2_ n3_; have p113 : 0 ≤ ((ji20) : Int) := of_decide_eq_true t0_; have q113 : (ji20) < (x3_2.length : Int) := of_decide_eq_true t0_; obtain ⟨ad113, e113, hx113_0⟩ := Kd.at_int (Kd.R_reads' HO_3.out).2.2 (ji20) p113 q113; obtain rfl : (⟨go8, 0, none⟩ : Addr) = ad113 := (by injection e113)
                      (first | simp only [add_plain] at hx113_0 | simp only [add_at] at hx113_0 | simp only [Addr.add, Nat.zero_add] at hx113_0 | skip)
                      replace p113 := eq_true p113; replace q113 := eq_true q113; have p114 : 0 ≤ (x4_1 : Int) := of_decide_eq_true t0_; have q114 : x4_1 < (x3_2.length : Int) := of_decide_eq_true t0_; obtain ⟨ad114, e114, hx114_0⟩ := Kd.at_int (Kd.R_reads' HO_3.out).2.2 x4_1 p114 q114; obtain rfl : (⟨go8, 0, none⟩ : Addr) = ad114 := (by injection e114)
                      (first | simp only [add_plain] at hx114_0 | simp only [add_at] at hx114_0 | simp only [Addr.add, Nat.zero_add] at hx114_0 | skip)
                      replace p114 := eq_true p114; replace q114 := eq_true q114; have p119 : 0 ≤ ((ji43) : Int) := of_decide_eq_true t0_; have q119 : (ji43) < (x3_2.length : Int) := of_decide_eq_true t0_; obtain ⟨ad119, e119, hx119_0⟩ := Kd.at_int (Kd.R_reads' HO_3.out).2.2 (ji43) p119 q119; obtain rfl : (⟨go8, 0, none⟩ : Addr) = ad119 := (by injection e119)
                      (first | simp only [add_plain] at hx119_0 | simp only [add_at] at hx119_0 | simp only [Addr.add, Nat.zero_add] at hx119_0 | skip)
                      replace p119 := eq_true p119; replace q119 := eq_true q119; have p120 : 0 ≤ (x4_1 : Int) := of_decide_eq_true t0_; have q120 : x4_1 < (x3_2.length : Int) := of_decide_eq_true t0_; obtain ⟨ad120, e120, hx120_0⟩ := Kd.at_int (Kd.R_reads' HO_3.out).2.2 x4_1 p120 q120; obtain rfl : (⟨go8, 0, none⟩ : Addr) = ad120 := (by injection e120)
                      (first | simp only [add_plain] at hx120_0 | simp only [add_at] at hx120_0 | simp only [Addr.add, Nat.zero_add] at hx120_0 | skip)
                      replace p120 := eq_true p120; replace q120 := eq_true q120
                      refine start_ (n := 36) (S := fun w' => w'.cell? ⟨gb110, 0, none⟩ = some (.int .i64 ((rd_T43 t106 x21_2).f0)) ∧ w'.cell? ⟨gb110, 1, none⟩ = some (.int .i64 ((rd_T43 t106 x21_2).f1)) ∧ w'.cell? ⟨go8, ((ji20)).toNat, none⟩ = some (.int .i64 (rd x3_2 (ji20))) ∧ w'.cell? ⟨go8, (x4_1).toNat, none⟩ = some (.int .i64 (rd x3_2 x4_1)) ∧ w'.cell? ⟨go8, ((ji43)).toNat, none⟩ = some (.int .i64 (rd x3_2 (ji43))) ∧ w'.cell? ⟨go8, (x4_1).toNat, none⟩ = some (.int .i64 (rd x3_2 x4_1))) (ds := []) #[false, false, false, false, false, false, false, false, false, false, false, false, false, false, false, false, false, false, false, false, false, false, false, false, false, false, false, false, false, false, false, false, false, false, false, false] t1_ rfl rfl ⟨c_ BK110.out 0, c_ BK110.out 1, hx113_0, hx114_0, hx119_0, hx120_0⟩ (fun hHeld => ?_); refine with_tabW fewP.tab9 fewP.bits9 (fun HT_ HW_ => ?_)
                      generalize w65.drew = w66 at HO_3 HO_19 BK110 HB hx113_0 hx114_0 hx119_0 hx120_0 hHeld ⊢
                      refine pure_ (i := 2) (N := some 27) (v := ?_) (a' := ?_) #[false, false, true, false, false, false, false, false, false, false, false, false, false, false, false, false, false, false, false, false, false, false, false, false, false, false, false, false, false, false, false, false, false, false, false, false] rfl rfl (any_of HT_.out t1_) (fun _ _ _ h => h) (Or.inl ⟨by rfl, ?_⟩) ?_ ?_
                      rotate_left
                      ·
                       intro w'
                       go_simp
                       with_reducible rfl
                      rotate_left
                      ·
                       simp only [Act.put, List.setIfInBounds_toArray, List.set_cons_zero, List.set_cons_succ, i64_w, i32_w]
                       rfl
                      refine take_ (i := 0) (N := some 25) (v := ?_) (a' := ?_) #[true, false, true, false, false, false, false, false, false, false, false, false, false, false, false, false, false, false, false, false, false, false, false, false, false, false, false, false, false, false, false, false, false, false, false, false] rfl rfl (take_ofW HT_.out HW_.out t1_) (fun _ _ _ h => h) (Or.inl ⟨by rfl, ?_⟩) hHeld ?_ ?_
                      rotate_left
                      ·
                       rintro w' ⟨s0, s1, s2, s3, s4, s5⟩
                       go_simp
                       with_reducible rfl
                      rotate_left
                      ·
                       simp only [Act.put, List.setIfInBounds_toArray, List.set_cons_zero, List.set_cons_succ, i64_w, i32_w]
                       rfl
                      refine one_ (i := 1) (N := some 26) #[true, true, true, false, false, false, false, false, false, false, false, false, false, false, false, false, false, false, false, false, false, false, false, false, false, false, false, false, false, false, false, false, false, false, false, false] rfl rfl (one_of HT_.out t1_) t29_ (fun K hK => ?_)
                      refine goes_ Try.func36 t1_ rfl #[.agg #[.int .i64 ((rd_T43 t106 x21_2).f0), .int .i64 ((rd_T43 t106 x21_2).f1)]] (by rfl) rfl rfl (by (try simp only [m1_, m2_, m3_]); first | done | rfl) ?_
                      with_reducible refine (impl_Dart_score.calls ((rd_T43 t106 x21_2).f0) ((rd_T43 t106 x21_2).f1) t111 _ A17.out).mono ?_
                      rintro e w67 ⟨rfl, hb⟩; have HS2_ := (hb.cell (World.block_lt_of_cell? _ _ (hHeld.2.2.1))).trans (hHeld.2.2.1); have HS3_ := (hb.cell (World.block_lt_of_cell? _ _ (hHeld.2.2.2.1))).trans (hHeld.2.2.2.1); have HS4_ := (hb.cell (World.block_lt_of_cell? _ _ (hHeld.2.2.2.2.1))).trans (hHeld.2.2.2.2.1); have HS5_ := (hb.cell (World.block_lt_of_cell? _ _ (hHeld.2.2.2.2.2))).trans (hHeld.2.2.2.2.2)
                      refine ⟨_, rfl, ?_⟩
                      have n0_ := a_ (Kd.R_below (R_ HO_3.out) hb); have n1_ := a_ (Kd.R_below (R_ HO_19.out) hb); have n2_ := bb_ BK110 hb; have n3_ := a_ (below_step (L_ HB.out GE110.out GE110.out GE110.out) hb); clear HO_3; clear HO_19; clear BK110; clear HB; have HO_3 := n0_; have HO_19 := n1_; have BK110 := n2_; have HB := n3_; clear n0_ n1_ n2_ n3_
                      (try clear hb)
                      (try clear hb2)
                      (try clear hk)
                      (try clear hi)
                      refine hK.out _ _ ⟨c_ BK110.out 0, c_ BK110.out 1, HS2_, HS3_, HS4_, HS5_⟩ (fun hHeld => ?_)
                      clear hK K
                      refine norm_ (a' := ?_) ?_ ?_
                      rotate_left
                      ·
                       show Act.put _ (some 26) _ = _
                       simp only [Act.put, List.setIfInBounds_toArray, List.set_cons_zero, List.set_cons_succ, i64_w, i32_w]
                       rfl
                      refine pure_ (i := 3) (N := some 28) (v := ?_) (a' := ?_) #[true, true, true, true, false, false, false, false, false, false, false, false, false, false, false, false, false, false, false, false, false, false, false, false, false, false, false, false, false, false, false, false, false, false, false, false] rfl rfl (any_of HT_.out t1_) (fun _ _ _ h => h) (Or.inl ⟨by rfl, ?_⟩) ?_ ?_
                      rotate_left
                      ·
                       intro w'
                       go_simp
                       with_reducible rfl
                      rotate_left
                      ·
                       simp only [Act.put, List.setIfInBounds_toArray, List.set_cons_zero, List.set_cons_succ, i64_w, i32_w]
                       rfl
                      refine pure_ (i := 4) (N := some 29) (v := ?_) (a' := ?_) #[true, true, true, true, true, false, false, false, false, false, false, false, false, false, false, false, false, false, false, false, false, false, false, false, false, false, false, false, false, false, false, false, false, false, false, false] rfl rfl (any_of HT_.out t1_) (fun _ _ _ h => h) (Or.inl ⟨by rfl, ?_⟩) ?_ ?_
                      rotate_left
                      ·
                       intro w'
                       go_simp
                       with_reducible rfl
                      rotate_left
                      ·
                       simp only [Act.put, List.setIfInBounds_toArray, List.set_cons_zero, List.set_cons_succ, i64_w, i32_w]
                       rfl
                      refine pure_ (i := 5) (N := some 30) (v := ?_) (a' := ?_) #[true, true, true, true, true, true, false, false, false, false, false, false, false, false, false, false, false, false, false, false, false, false, false, false, false, false, false, false, false, false, false, false, false, false, false, false] rfl rfl (any_of HT_.out t1_) (fun _ _ _ h => h) (Or.inl ⟨by rfl, ?_⟩) ?_ ?_
                      rotate_left
                      ·
                       intro w'
                       go_simp
                       with_reducible rfl
                      rotate_left
                      ·
                       simp only [Act.put, List.setIfInBounds_toArray, List.set_cons_zero, List.set_cons_succ, i64_w, i32_w]
                       rfl
                      refine pure_ (i := 6) (N := some 31) (v := ?_) (a' := ?_) #[true, true, true, true, true, true, true, false, false, false, false, false, false, false, false, false, false, false, false, false, false, false, false, false, false, false, false, false, false, false, false, false, false, false, false, false] rfl rfl (any_of HT_.out t1_) (fun _ _ _ h => h) (Or.inl ⟨by rfl, ?_⟩) ?_ ?_
                      rotate_left
                      ·
                       intro w'
                       go_simp
                       with_reducible rfl
                      rotate_left
                      ·
                       simp only [Act.put, List.setIfInBounds_toArray, List.set_cons_zero, List.set_cons_succ, i64_w, i32_w]
                       rfl
                      refine take_ (i := 7) (N := some 32) (v := ?_) (a' := ?_) #[true, true, true, true, true, true, true, true, false, false, false, false, false, false, false, false, false, false, false, false, false, false, false, false, false, false, false, false, false, false, false, false, false, false, false, false] rfl rfl (take_ofW HT_.out HW_.out t1_) (fun _ _ _ h => h) (Or.inl ⟨by rfl, ?_⟩) hHeld ?_ ?_
                      rotate_left
                      ·
                       rintro w' ⟨s0, s1, s2, s3, s4, s5⟩
                       go_simp
                       with_reducible rfl
                      rotate_left
                      ·
                       simp only [Act.put, List.setIfInBounds_toArray, List.set_cons_zero, List.set_cons_succ, i64_w, i32_w]
                       rfl
                      refine one_ (i := 8) (N := some 33) #[true, true, true, true, true, true, true, true, true, false, false, false, false, false, false, false, false, false, false, false, false, false, false, false, false, false, false, false, false, false, false, false, false, false, false, false] rfl rfl (one_of HT_.out t1_) t29_ (fun K hK => ?_)
                      refine goes_ Try.func36 t1_ rfl #[.agg #[.int .i64 ((rd_T43 t106 x21_2).f0), .int .i64 ((rd_T43 t106 x21_2).f1)]] (by rfl) rfl rfl (by (try simp only [m1_, m2_, m3_]); first | done | rfl) ?_
                      with_reducible refine (impl_Dart_score.calls ((rd_T43 t106 x21_2).f0) ((rd_T43 t106 x21_2).f1) t112 _ A19.out).mono ?_
                      rintro e w68 ⟨rfl, hb⟩; have HS2_ := (hb.cell (World.block_lt_of_cell? _ _ (hHeld.2.2.1))).trans (hHeld.2.2.1); have HS3_ := (hb.cell (World.block_lt_of_cell? _ _ (hHeld.2.2.2.1))).trans (hHeld.2.2.2.1); have HS4_ := (hb.cell (World.block_lt_of_cell? _ _ (hHeld.2.2.2.2.1))).trans (hHeld.2.2.2.2.1); have HS5_ := (hb.cell (World.block_lt_of_cell? _ _ (hHeld.2.2.2.2.2))).trans (hHeld.2.2.2.2.2)
                      refine ⟨_, rfl, ?_⟩
                      have n0_ := a_ (Kd.R_below (R_ HO_3.out) hb); have n1_ := a_ (Kd.R_below (R_ HO_19.out) hb); have n2_ := bb_ BK110 hb; have n3_ := a_ (below_step (L_ HB.out GE110.out GE110.out GE110.out) hb); clear HO_3; clear HO_19; clear BK110; clear HB; have HO_3 := n0_; have HO_19 := n1_; have BK110 := n2_; have HB := n3_; clear n0_ n1_ n2_ n3_
                      (try clear hb)
                      (try clear hb2)
                      (try clear hk)
                      (try clear hi)
                      refine hK.out _ _ ⟨c_ BK110.out 0, c_ BK110.out 1, HS2_, HS3_, HS4_, HS5_⟩ (fun hHeld => ?_)
                      clear hK K
                      refine norm_ (a' := ?_) ?_ ?_
                      rotate_left
                      ·
                       show Act.put _ (some 33) _ = _
                       simp only [Act.put, List.setIfInBounds_toArray, List.set_cons_zero, List.set_cons_succ, i64_w, i32_w]
                       rfl
                      refine pure_ (i := 9) (N := some 34) (v := ?_) (a' := ?_) #[true, true, true, true, true, true, true, true, true, true, false, false, false, false, false, false, false, false, false, false, false, false, false, false, false, false, false, false, false, false, false, false, false, false, false, false] rfl rfl (any_of HT_.out t1_) (fun _ _ _ h => h) (Or.inl ⟨by rfl, ?_⟩) ?_ ?_
                      rotate_left
                      ·
                       intro w'
                       go_simp
                       with_reducible rfl
                      rotate_left
                      ·
                       simp only [Act.put, List.setIfInBounds_toArray, List.set_cons_zero, List.set_cons_succ, i64_w, i32_w]
                       rfl
                      refine pure_ (i := 10) (N := some 35) (v := ?_) (a' := ?_) #[true, true, true, true, true, true, true, true, true, true, true, false, false, false, false, false, false, false, false, false, false, false, false, false, false, false, false, false, false, false, false, false, false, false, false, false] rfl rfl (any_of HT_.out t1_) (fun _ _ _ h => h) (Or.inl ⟨by rfl, ?_⟩) ?_ ?_
                      rotate_left
                      ·
                       intro w'
                       go_simp
                       with_reducible rfl
                      rotate_left
                      ·
                       simp only [Act.put, List.setIfInBounds_toArray, List.set_cons_zero, List.set_cons_succ, i64_w, i32_w]
                       rfl
                      refine take_ (i := 11) (N := some 36) (v := ?_) (a' := ?_) #[true, true, true, true, true, true, true, true, true, true, true, true, false, false, false, false, false, false, false, false, false, false, false, false, false, false, false, false, false, false, false, false, false, false, false, false] rfl rfl (take_ofW HT_.out HW_.out t1_) (fun _ _ _ h => h) (Or.inl ⟨by rfl, ?_⟩) hHeld ?_ ?_
                      rotate_left
                      ·
                       rintro w' ⟨s0, s1, s2, s3, s4, s5⟩
                       go_simp
                       with_reducible rfl
                      rotate_left
                      ·
                       simp only [Act.put, List.setIfInBounds_toArray, List.set_cons_zero, List.set_cons_succ, i64_w, i32_w]
                       rfl
                      refine pure_ (i := 12) (N := some 37) (v := ?_) (a' := ?_) #[true, true, true, true, true, true, true, true, true, true, true, true, true, false, false, false, false, false, false, false, false, false, false, false, false, false, false, false, false, false, false, false, false, false, false, false] rfl rfl (any_of HT_.out t1_) (fun _ _ _ h => h) (Or.inl ⟨by rfl, ?_⟩) ?_ ?_
                      rotate_left
                      ·
                       intro w'
                       go_simp
                       with_reducible rfl
                      rotate_left
                      ·
                       simp only [Act.put, List.setIfInBounds_toArray, List.set_cons_zero, List.set_cons_succ, i64_w, i32_w]
                       rfl
                      refine pure_ (i := 13) (N := some 38) (v := ?_) (a' := ?_) #[true, true, true, true, true, true, true, true, true, true, true, true, true, true, false, false, false, false, false, false, false, false, false, false, false, false, false, false, false, false, false, false, false, false, false, false] rfl rfl (any_of HT_.out t1_) (fun _ _ _ h => h) (Or.inl ⟨by rfl, ?_⟩) ?_ ?_
                      rotate_left
                      ·
                       intro w'
                       go_simp
                       with_reducible rfl
                      rotate_left
                      ·
                       simp only [Act.put, List.setIfInBounds_toArray, List.set_cons_zero, List.set_cons_succ, i64_w, i32_w]
                       rfl
                      refine pure_ (i := 14) (N := some 39) (v := ?_) (a' := ?_) #[true, true, true, true, true, true, true, true, true, true, true, true, true, true, true, false, false, false, false, false, false, false, false, false, false, false, false, false, false, false, false, false, false, false, false, false] rfl rfl (any_of HT_.out t1_) (fun _ _ _ h => h) (Or.inl ⟨by rfl, ?_⟩) ?_ ?_
                      rotate_left
                      ·
                       intro w'
                       go_simp
                       with_reducible rfl
                      rotate_left
                      ·
                       simp only [Act.put, List.setIfInBounds_toArray, List.set_cons_zero, List.set_cons_succ, i64_w, i32_w]
                       rfl
                      refine pure_ (i := 15) (N := some 40) (v := ?_) (a' := ?_) #[true, true, true, true, true, true, true, true, true, true, true, true, true, true, true, true, false, false, false, false, false, false, false, false, false, false, false, false, false, false, false, false, false, false, false, false] rfl rfl (any_of HT_.out t1_) (fun _ _ _ h => h) (Or.inl ⟨by rfl, ?_⟩) ?_ ?_
                      rotate_left
                      ·
                       intro w'
                       go_simp
                       with_reducible rfl
                      rotate_left
                      ·
                       simp only [Act.put, List.setIfInBounds_toArray, List.set_cons_zero, List.set_cons_succ, i64_w, i32_w]
                       rfl
                      refine pure_ (i := 16) (N := some 41) (v := ?_) (a' := ?_) #[true, true, true, true, true, true, true, true, true, true, true, true, true, true, true, true, true, false, false, false, false, false, false, false, false, false, false, false, false, false, false, false, false, false, false, false] rfl rfl (any_of HT_.out t1_) (fun _ _ _ h => h) (Or.inl ⟨by rfl, ?_⟩) ?_ ?_
                      rotate_left
                      ·
                       intro w'
                       go_simp
                       with_reducible rfl
                      rotate_left
                      ·
                       simp only [Act.put, List.setIfInBounds_toArray, List.set_cons_zero, List.set_cons_succ, i64_w, i32_w]
                       rfl
                      refine pure_ (i := 17) (N := some 42) (v := ?_) (a' := ?_) #[true, true, true, true, true, true, true, true, true, true, true, true, true, true, true, true, true, true, false, false, false, false, false, false, false, false, false, false, false, false, false, false, false, false, false, false] rfl rfl (any_of HT_.out t1_) (fun _ _ _ h => h) (Or.inl ⟨by rfl, ?_⟩) ?_ ?_
                      rotate_left
                      ·
                       intro w'
                       go_simp
                       with_reducible rfl
                      rotate_left
                      ·
                       simp only [Act.put, List.setIfInBounds_toArray, List.set_cons_zero, List.set_cons_succ, i64_w, i32_w]
                       rfl
                      refine take_ (i := 18) (N := some 43) (v := ?_) (a' := ?_) #[true, true, true, true, true, true, true, true, true, true, true, true, true, true, true, true, true, true, true, false, false, false, false, false, false, false, false, false, false, false, false, false, false, false, false, false] rfl rfl (take_ofW HT_.out HW_.out t1_) (fun _ _ _ h => h) (Or.inl ⟨by rfl, ?_⟩) hHeld ?_ ?_
                      rotate_left
                      ·
                       rintro w' ⟨s0, s1, s2, s3, s4, s5⟩
                       go_simp
                       with_reducible rfl
                      rotate_left
                      ·
                       simp only [Act.put, List.setIfInBounds_toArray, List.set_cons_zero, List.set_cons_succ, i64_w, i32_w]
                       rfl
                      refine pure_ (i := 19) (N := some 44) (v := ?_) (a' := ?_) #[true, true, true, true, true, true, true, true, true, true, true, true, true, true, true, true, true, true, true, true, false, false, false, false, false, false, false, false, false, false, false, false, false, false, false, false] rfl rfl (any_of HT_.out t1_) (fun _ _ _ h => h) (Or.inl ⟨by rfl, ?_⟩) ?_ ?_
                      rotate_left
                      ·
                       intro w'
                       go_simp
                       with_reducible rfl
                      rotate_left
                      ·
                       simp only [Act.put, List.setIfInBounds_toArray, List.set_cons_zero, List.set_cons_succ, i64_w, i32_w]
                       rfl
                      refine pure_ (i := 20) (N := some 45) (v := ?_) (a' := ?_) #[true, true, true, true, true, true, true, true, true, true, true, true, true, true, true, true, true, true, true, true, true, false, false, false, false, false, false, false, false, false, false, false, false, false, false, false] rfl rfl (any_of HT_.out t1_) (fun _ _ _ h => h) (Or.inl ⟨by rfl, ?_⟩) ?_ ?_
                      rotate_left
                      ·
                       intro w'
                       go_simp
                       with_reducible rfl
                      rotate_left
                      ·
                       simp only [Act.put, List.setIfInBounds_toArray, List.set_cons_zero, List.set_cons_succ, i64_w, i32_w]
                       rfl
                      refine pure_ (i := 21) (N := some 46) (v := ?_) (a' := ?_) #[true, true, true, true, true, true, true, true, true, true, true, true, true, true, true, true, true, true, true, true, true, true, false, false, false, false, false, false, false, false, false, false, false, false, false, false] rfl rfl (any_of HT_.out t1_) (fun _ _ _ h => h) (Or.inl ⟨by rfl, ?_⟩) ?_ ?_
                      rotate_left
                      ·
                       intro w'
                       go_simp
                       with_reducible rfl
                      rotate_left
                      ·
                       simp only [Act.put, List.setIfInBounds_toArray, List.set_cons_zero, List.set_cons_succ, i64_w, i32_w]
                       rfl
                      refine pure_ (i := 22) (N := some 47) (v := ?_) (a' := ?_) #[true, true, true, true, true, true, true, true, true, true, true, true, true, true, true, true, true, true, true, true, true, true, true, false, false, false, false, false, false, false, false, false, false, false, false, false] rfl rfl (any_of HT_.out t1_) (fun _ _ _ h => h) (Or.inl ⟨by rfl, ?_⟩) ?_ ?_
                      rotate_left
                      ·
                       intro w'
                       go_simp
                       with_reducible rfl
                      rotate_left
                      ·
                       simp only [Act.put, List.setIfInBounds_toArray, List.set_cons_zero, List.set_cons_succ, i64_w, i32_w]
                       rfl
                      refine pure_ (i := 29) (N := some 54) (v := ?_) (a' := ?_) #[true, true, true, true, true, true, true, true, true, true, true, true, true, true, true, true, true, true, true, true, true, true, true, false, false, false, false, false, false, true, false, false, false, false, false, false] rfl rfl (any_of HT_.out t1_) (fun _ _ _ h => h) (Or.inl ⟨by rfl, ?_⟩) ?_ ?_
                      rotate_left
                      ·
                       intro w'
                       go_simp
                       with_reducible rfl
                      rotate_left
                      ·
                       simp only [Act.put, List.setIfInBounds_toArray, List.set_cons_zero, List.set_cons_succ, i64_w, i32_w]
                       rfl
                      refine pure_ (i := 30) (N := some 55) (v := ?_) (a' := ?_) #[true, true, true, true, true, true, true, true, true, true, true, true, true, true, true, true, true, true, true, true, true, true, true, false, false, false, false, false, false, true, true, false, false, false, false, false] rfl rfl (any_of HT_.out t1_) (fun _ _ _ h => h) (Or.inl ⟨by rfl, ?_⟩) ?_ ?_
                      rotate_left
                      ·
                       intro w'
                       go_simp
                       with_reducible rfl
                      rotate_left
                      ·
                       simp only [Act.put, List.setIfInBounds_toArray, List.set_cons_zero, List.set_cons_succ, i64_w, i32_w]
                       rfl
                      refine pure_ (i := 31) (N := some 56) (v := ?_) (a' := ?_) #[true, true, true, true, true, true, true, true, true, true, true, true, true, true, true, true, true, true, true, true, true, true, true, false, false, false, false, false, false, true, true, true, false, false, false, false] rfl rfl (any_of HT_.out t1_) (fun _ _ _ h => h) (Or.inl ⟨by rfl, ?_⟩) ?_ ?_
                      rotate_left
                      ·
                       intro w'
                       go_simp
                       with_reducible rfl
                      rotate_left
                      ·
                       simp only [Act.put, List.setIfInBounds_toArray, List.set_cons_zero, List.set_cons_succ, i64_w, i32_w]
                       rfl
                      refine take_ (i := 23) (N := some 48) (v := ?_) (a' := ?_) #[true, true, true, true, true, true, true, true, true, true, true, true, true, true, true, true, true, true, true, true, true, true, true, true, false, false, false, false, false, true, true, true, false, false, false, false] rfl rfl (take_ofW HT_.out HW_.out t1_) (fun _ _ _ h => h) (Or.inl ⟨by rfl, ?_⟩) hHeld ?_ ?_
                      rotate_left
                      ·
                       rintro w' ⟨s0, s1, s2, s3, s4, s5⟩
                       go_simp
                       with_reducible rfl
                      rotate_left
                      ·
                       simp only [Act.put, List.setIfInBounds_toArray, List.set_cons_zero, List.set_cons_succ, i64_w, i32_w]
                       rfl
                      refine take_ (i := 32) (N := some 57) (v := ?_) (a' := ?_) #[true, true, true, true, true, true, true, true, true, true, true, true, true, true, true, true, true, true, true, true, true, true, true, true, false, false, false, false, false, true, true, true, true, false, false, false] rfl rfl (take_ofW HT_.out HW_.out t1_) (fun _ _ _ h => h) (Or.inl ⟨by rfl, ?_⟩) hHeld ?_ ?_
                      rotate_left
                      ·
                       rintro w' ⟨s0, s1, s2, s3, s4, s5⟩
                       go_simp
                       with_reducible rfl
                      rotate_left
                      ·
                       simp only [Act.put, List.setIfInBounds_toArray, List.set_cons_zero, List.set_cons_succ, i64_w, i32_w]
                       rfl
                      refine one_ (i := 24) (N := some 49) #[true, true, true, true, true, true, true, true, true, true, true, true, true, true, true, true, true, true, true, true, true, true, true, true, true, false, false, false, false, true, true, true, true, false, false, false] rfl rfl (one_of HT_.out t1_) t29_ (fun K hK => ?_)
                      refine goes_ Try.func36 t1_ rfl #[.agg #[.int .i64 ((rd_T43 t106 x21_2).f0), .int .i64 ((rd_T43 t106 x21_2).f1)]] (by rfl) rfl rfl (by (try simp only [m1_, m2_, m3_]); first | done | rfl) ?_
                      with_reducible refine (impl_Dart_score.calls ((rd_T43 t106 x21_2).f0) ((rd_T43 t106 x21_2).f1) t118 _ A42.out).mono ?_
                      rintro e w69 ⟨rfl, hb⟩; have HS2_ := (hb.cell (World.block_lt_of_cell? _ _ (hHeld.2.2.1))).trans (hHeld.2.2.1); have HS3_ := (hb.cell (World.block_lt_of_cell? _ _ (hHeld.2.2.2.1))).trans (hHeld.2.2.2.1); have HS4_ := (hb.cell (World.block_lt_of_cell? _ _ (hHeld.2.2.2.2.1))).trans (hHeld.2.2.2.2.1); have HS5_ := (hb.cell (World.block_lt_of_cell? _ _ (hHeld.2.2.2.2.2))).trans (hHeld.2.2.2.2.2)
                      refine ⟨_, rfl, ?_⟩
                      have n0_ := a_ (Kd.R_below (R_ HO_3.out) hb); have n1_ := a_ (Kd.R_below (R_ HO_19.out) hb); have n2_ := bb_ BK110 hb; have n3_ := a_ (below_step (L_ HB.out GE110.out GE110.out GE110.out) hb); clear HO_3; clear HO_19; clear BK110; clear HB; have HO_3 := n0_; have HO_19 := n1_; have BK110 := n2_; have HB := n3_; clear n0_ n1_ n2_ n3_
                      (try clear hb)
                      (try clear hb2)
                      (try clear hk)
                      (try clear hi)
                      refine hK.out _ _ ⟨c_ BK110.out 0, c_ BK110.out 1, HS2_, HS3_, HS4_, HS5_⟩ (fun hHeld => ?_)
                      clear hK K
                      refine norm_ (a' := ?_) ?_ ?_
                      rotate_left
                      ·
                       show Act.put _ (some 49) _ = _
                       simp only [Act.put, List.setIfInBounds_toArray, List.set_cons_zero, List.set_cons_succ, i64_w, i32_w]
                       rfl
                      refine pure_ (i := 25) (N := some 50) (v := ?_) (a' := ?_) #[true, true, true, true, true, true, true, true, true, true, true, true, true, true, true, true, true, true, true, true, true, true, true, true, true, true, false, false, false, true, true, true, true, false, false, false] rfl rfl (any_of HT_.out t1_) (fun _ _ _ h => h) (Or.inl ⟨by rfl, ?_⟩) ?_ ?_
                      rotate_left
                      ·
                       intro w'
                       go_simp
                       with_reducible rfl
                      rotate_left
                      ·
                       simp only [Act.put, List.setIfInBounds_toArray, List.set_cons_zero, List.set_cons_succ, i64_w, i32_w]
                       rfl
                      refine pure_ (i := 26) (N := some 51) (v := ?_) (a' := ?_) #[true, true, true, true, true, true, true, true, true, true, true, true, true, true, true, true, true, true, true, true, true, true, true, true, true, true, true, false, false, true, true, true, true, false, false, false] rfl rfl (any_of HT_.out t1_) (fun _ _ _ h => h) (Or.inl ⟨by rfl, ?_⟩) ?_ ?_
                      rotate_left
                      ·
                       intro w'
                       go_simp
                       with_reducible rfl
                      rotate_left
                      ·
                       simp only [Act.put, List.setIfInBounds_toArray, List.set_cons_zero, List.set_cons_succ, i64_w, i32_w]
                       rfl
                      refine take_ (i := 27) (N := some 52) (v := ?_) (a' := ?_) #[true, true, true, true, true, true, true, true, true, true, true, true, true, true, true, true, true, true, true, true, true, true, true, true, true, true, true, true, false, true, true, true, true, false, false, false] rfl rfl (take_ofW HT_.out HW_.out t1_) (fun _ _ _ h => h) (Or.inl ⟨by rfl, ?_⟩) hHeld ?_ ?_
                      rotate_left
                      ·
                       rintro w' ⟨s0, s1, s2, s3, s4, s5⟩
                       go_simp
                       with_reducible rfl
                      rotate_left
                      ·
                       simp only [Act.put, List.setIfInBounds_toArray, List.set_cons_zero, List.set_cons_succ, i64_w, i32_w]
                       rfl
                      refine pure_ (i := 28) (N := some 53) (v := ?_) (a' := ?_) #[true, true, true, true, true, true, true, true, true, true, true, true, true, true, true, true, true, true, true, true, true, true, true, true, true, true, true, true, true, true, true, true, true, false, false, false] rfl rfl (any_of HT_.out t1_) (fun _ _ _ h => h) (Or.inl ⟨by rfl, ?_⟩) ?_ ?_
                      rotate_left
                      ·
                       intro w'
                       go_simp
                       with_reducible rfl
                      rotate_left
                      ·
                       simp only [Act.put, List.setIfInBounds_toArray, List.set_cons_zero, List.set_cons_succ, i64_w, i32_w]
                       rfl
                      refine pure_ (i := 33) (N := some 58) (v := ?_) (a' := ?_) #[true, true, true, true, true, true, true, true, true, true, true, true, true, true, true, true, true, true, true, true, true, true, true, true, true, true, true, true, true, true, true, true, true, true, false, false] rfl rfl (any_of HT_.out t1_) (fun _ _ _ h => h) (Or.inl ⟨by rfl, ?_⟩) ?_ ?_
                      rotate_left
                      ·
                       intro w'
                       go_simp
                       with_reducible rfl
                      rotate_left
                      ·
                       simp only [Act.put, List.setIfInBounds_toArray, List.set_cons_zero, List.set_cons_succ, i64_w, i32_w]
                       rfl
                      refine pure_ (i := 34) (N := some 59) (v := ?_) (a' := ?_) #[true, true, true, true, true, true, true, true, true, true, true, true, true, true, true, true, true, true, true, true, true, true, true, true, true, true, true, true, true, true, true, true, true, true, true, false] rfl rfl (any_of HT_.out t1_) (fun _ _ _ h => h) (Or.inl ⟨by rfl, ?_⟩) ?_ ?_
                      rotate_left
                      ·
                       intro w'
                       go_simp
                       with_reducible rfl
                      rotate_left
                      ·
                       simp only [Act.put, List.setIfInBounds_toArray, List.set_cons_zero, List.set_cons_succ, i64_w, i32_w]
                       rfl
                      refine pure_ (i := 35) (N := some 60) (v := ?_) (a' := ?_) #[true, true, true, true, true, true, true, true, true, true, true, true, true, true, true, true, true, true, true, true, true, true, true, true, true, true, true, true, true, true, true, true, true, true, true, true] rfl rfl (any_of HT_.out t1_) (fun _ _ _ h => h) (Or.inl ⟨by rfl, ?_⟩) ?_ ?_
                      rotate_left
                      ·
                       intro w'
                       go_simp
                       with_reducible rfl
                      rotate_left
                      ·
                       simp only [Act.put, List.setIfInBounds_toArray, List.set_cons_zero, List.set_cons_succ, i64_w, i32_w]
                       rfl
                      refine done_ (done_of HT_.out t1_) ?_
                      try go_wp2
                      (try simp only [← hl3_2])
                      go_roundg k2
                      case measure => have := HK1.out; have := HK2.out; omega
                      case rel => exact ⟨(x3_2), (wrap64 (x21_2 + 1)), t2_, H', ⟨t41_⟩, ⟨t32_⟩, ⟨t30_⟩, ⟨L_ HB.out GE110.out GE110.out GE110.out⟩⟩
                    ·
                     rw [if_neg c45] at H
                     exact absurd H t31_
                   ·
                    rw [if_neg c44] at H
                    exact absurd H t31_
                 ·
                  rw [if_neg c25] at H
                  exact absurd H t31_
                ·
                 rw [if_neg c24] at H
                 exact absurd H t31_
               ·
                rw [if_neg c23] at H; have c23b0 : decide (0 ≤ (rd x3_2 (ji20))) = false := decide_eq_false c23; clear c23; have H' := a_ H; clear H; have p109 : 0 ≤ (x21_2 : Int) := of_decide_eq_true t0_; have q109 : x21_2 < (t106.length : Int) := of_decide_eq_true t0_; obtain ⟨ad109, e109, hx109_0, hx109_1⟩ := at_T43 (Kd.R_reads' HO_19.out).2.2 x21_2 p109 q109
                cases e109
                replace p109 := eq_true p109; replace q109 := eq_true q109
                try go_wp2_with (first | ((with_reducible refine gate_dst (N := 6) rfl ?_); refine box_event ?hg (N := 6) ?hd (cs := #[.int .i64 0, .int .i64 0]) (t := 43) ?hr ?_; (case hd => rfl); (case hg => rfl); (case hr => first | (go_simp; done) | (go_simp; rfl)); intro gb110 hg w70 hbox hb; have n0_ := a_ (Kd.R_below (R_ HO_3.out) hb); have n1_ := a_ (Kd.R_below (Kd.R_elderB (R_ HO_19.out) gb110 (Nat.le_of_eq hg.symm)) hb); have n2_ := a_ (below_step (L_ HB.out (Nat.le_refl _) (Nat.le_refl _) (Nat.le_refl _)) hb); have n3_ := a_ (hbox); have n4_ := a_ ((by rw [hg]; exact (below_size (L_ HB.out (Nat.le_refl _) (Nat.le_refl _) (Nat.le_refl _))) : w.heap.size ≤ gb110)); have n5_ := a_ ((by rw [hg]; exact (below_size (L_ HB.out (Nat.le_refl _) (Nat.le_refl _) (Nat.le_refl _))) : w.heap.size ≤ gb110)); clear HO_3; clear HO_19; clear HB; have HO_3 := n0_; have HO_19 := n1_; have HB := n2_; have BK110 := n3_; have GW110 := n4_; have GE110 := n5_; clear n0_ n1_ n2_ n3_ n4_ n5_; clear hb hbox hg; have hcz71_0 : w70.cell? ⟨gb110, 0, none⟩ = some (.int .i64 0) := c_ BK110.out 0; have hcz71_1 : w70.cell? ⟨gb110, 1, none⟩ = some (.int .i64 0) := c_ BK110.out 1; have hfz71_0 := blk_frozen BK110.out 0; have hfz71_1 := blk_frozen BK110.out 1))
                have n0_ : Aside0 (Kd.R (Kd.int .i64) 3 ((w70.setCell ⟨gb110, 0, none⟩ (.int .i64 ((rd_T43 t106 x21_2).f0))).setCell ⟨gb110, 1, none⟩ (.int .i64 ((rd_T43 t106 x21_2).f1))) w.heap.size (fun _ => True) (.slice (some ⟨go8, 0, none⟩) x3_2.length co8) x3_2) := ⟨t12_⟩; have n1_ : Aside0 (Kd.R k43 43 ((w70.setCell ⟨gb110, 0, none⟩ (.int .i64 ((rd_T43 t106 x21_2).f0))).setCell ⟨gb110, 1, none⟩ (.int .i64 ((rd_T43 t106 x21_2).f1))) w.heap.size (fun k_ => k_ ≠ gb110) (.slice (some ad109) t106.length co13) t106) := ⟨t9_⟩; have n2_ : Aside0 (((w70.setCell ⟨gb110, 0, none⟩ (.int .i64 ((rd_T43 t106 x21_2).f0))).setCell ⟨gb110, 1, none⟩ (.int .i64 ((rd_T43 t106 x21_2).f1))).heap[gb110]? = some (.cells #[.int .i64 ((rd_T43 t106 x21_2).f0), .int .i64 ((rd_T43 t106 x21_2).f1)] 43 (0, 0))) := ⟨t11_⟩; have n3_ : Aside0 (Below w.heap.size w ((w70.setCell ⟨gb110, 0, none⟩ (.int .i64 ((rd_T43 t106 x21_2).f0))).setCell ⟨gb110, 1, none⟩ (.int .i64 ((rd_T43 t106 x21_2).f1)))) := ⟨L_ HB.out GE110.out GE110.out GE110.out⟩
                (try clear HO_3)
                (try clear HO_19)
                (try clear BK110)
                (try clear HB)
                generalize ((w70.setCell ⟨gb110, 0, none⟩ (.int .i64 ((rd_T43 t106 x21_2).f0))).setCell ⟨gb110, 1, none⟩ (.int .i64 ((rd_T43 t106 x21_2).f1))) = w72 at n0_ n1_ n2_ n3_ ⊢; have HO_3 := n0_; have HO_19 := n1_; have BK110 := n2_; have HB := n3_; clear n0_ n1_ n2_ n3_; have n0_ := a_ (Kd.R_drew HO_3.out); have n1_ := a_ (Kd.R_drew HO_19.out); have n2_ := a_ (blk_drew BK110.out); have n3_ := a_ (below_drew1 HB.out); clear HO_3; clear HO_19; clear BK110; clear HB; have HO_3 := n0_; have HO_19 := n1_; have BK110 := n2_; have HB := n3_; clear n0_ n1_ n2_ n3_; have p113 : 0 ≤ ((ji20) : Int) := of_decide_eq_true t0_; have q113 : (ji20) < (x3_2.length : Int) := of_decide_eq_true t0_; obtain ⟨ad113, e113, hx113_0⟩ := Kd.at_int (Kd.R_reads' HO_3.out).2.2 (ji20) p113 q113; obtain rfl : (⟨go8, 0, none⟩ : Addr) = ad113 := (by injection e113)
                (first | simp only [add_plain] at hx113_0 | simp only [add_at] at hx113_0 | simp only [Addr.add, Nat.zero_add] at hx113_0 | skip)
                replace p113 := eq_true p113; replace q113 := eq_true q113
                refine start_ (n := 36) (S := fun w' => w'.cell? ⟨gb110, 0, none⟩ = some (.int .i64 ((rd_T43 t106 x21_2).f0)) ∧ w'.cell? ⟨gb110, 1, none⟩ = some (.int .i64 ((rd_T43 t106 x21_2).f1)) ∧ w'.cell? ⟨go8, ((ji20)).toNat, none⟩ = some (.int .i64 (rd x3_2 (ji20)))) (ds := []) #[false, false, false, false, false, false, false, false, false, false, false, false, false, false, false, false, false, false, false, false, false, false, false, false, false, false, false, false, false, false, false, false, false, false, false, false] t1_ rfl rfl ⟨c_ BK110.out 0, c_ BK110.out 1, hx113_0⟩ (fun hHeld => ?_); refine with_tabW fewP.tab9 fewP.bits9 (fun HT_ HW_ => ?_)
                generalize w72.drew = w73 at HO_3 HO_19 BK110 HB hx113_0 hHeld ⊢
                refine pure_ (i := 2) (N := some 27) (v := ?_) (a' := ?_) #[false, false, true, false, false, false, false, false, false, false, false, false, false, false, false, false, false, false, false, false, false, false, false, false, false, false, false, false, false, false, false, false, false, false, false, false] rfl rfl (any_of HT_.out t1_) (fun _ _ _ h => h) (Or.inl ⟨by rfl, ?_⟩) ?_ ?_
                rotate_left
                ·
                 intro w'
                 go_simp
                 with_reducible rfl
                rotate_left
                ·
                 simp only [Act.put, List.setIfInBounds_toArray, List.set_cons_zero, List.set_cons_succ, i64_w, i32_w]
                 rfl
                refine take_ (i := 0) (N := some 25) (v := ?_) (a' := ?_) #[true, false, true, false, false, false, false, false, false, false, false, false, false, false, false, false, false, false, false, false, false, false, false, false, false, false, false, false, false, false, false, false, false, false, false, false] rfl rfl (take_ofW HT_.out HW_.out t1_) (fun _ _ _ h => h) (Or.inl ⟨by rfl, ?_⟩) hHeld ?_ ?_
                rotate_left
                ·
                 rintro w' ⟨s0, s1, s2⟩
                 go_simp
                 with_reducible rfl
                rotate_left
                ·
                 simp only [Act.put, List.setIfInBounds_toArray, List.set_cons_zero, List.set_cons_succ, i64_w, i32_w]
                 rfl
                refine one_ (i := 1) (N := some 26) #[true, true, true, false, false, false, false, false, false, false, false, false, false, false, false, false, false, false, false, false, false, false, false, false, false, false, false, false, false, false, false, false, false, false, false, false] rfl rfl (one_of HT_.out t1_) t29_ (fun K hK => ?_)
                refine goes_ Try.func36 t1_ rfl #[.agg #[.int .i64 ((rd_T43 t106 x21_2).f0), .int .i64 ((rd_T43 t106 x21_2).f1)]] (by rfl) rfl rfl (by (try simp only [m1_, m2_, m3_]); first | done | rfl) ?_
                with_reducible refine (impl_Dart_score.calls ((rd_T43 t106 x21_2).f0) ((rd_T43 t106 x21_2).f1) t111 _ A17.out).mono ?_
                rintro e w74 ⟨rfl, hb⟩; have HS2_ := (hb.cell (World.block_lt_of_cell? _ _ (hHeld.2.2))).trans (hHeld.2.2)
                refine ⟨_, rfl, ?_⟩
                have n0_ := a_ (Kd.R_below (R_ HO_3.out) hb); have n1_ := a_ (Kd.R_below (R_ HO_19.out) hb); have n2_ := bb_ BK110 hb; have n3_ := a_ (below_step (L_ HB.out GE110.out GE110.out GE110.out) hb); clear HO_3; clear HO_19; clear BK110; clear HB; have HO_3 := n0_; have HO_19 := n1_; have BK110 := n2_; have HB := n3_; clear n0_ n1_ n2_ n3_
                (try clear hb)
                (try clear hb2)
                (try clear hk)
                (try clear hi)
                refine hK.out _ _ ⟨c_ BK110.out 0, c_ BK110.out 1, HS2_⟩ (fun hHeld => ?_)
                clear hK K
                refine norm_ (a' := ?_) ?_ ?_
                rotate_left
                ·
                 show Act.put _ (some 26) _ = _
                 simp only [Act.put, List.setIfInBounds_toArray, List.set_cons_zero, List.set_cons_succ, i64_w, i32_w]
                 rfl
                refine pure_ (i := 3) (N := some 28) (v := ?_) (a' := ?_) #[true, true, true, true, false, false, false, false, false, false, false, false, false, false, false, false, false, false, false, false, false, false, false, false, false, false, false, false, false, false, false, false, false, false, false, false] rfl rfl (any_of HT_.out t1_) (fun _ _ _ h => h) (Or.inl ⟨by rfl, ?_⟩) ?_ ?_
                rotate_left
                ·
                 intro w'
                 go_simp
                 with_reducible rfl
                rotate_left
                ·
                 simp only [Act.put, List.setIfInBounds_toArray, List.set_cons_zero, List.set_cons_succ, i64_w, i32_w]
                 rfl
                refine pure_ (i := 4) (N := some 29) (v := ?_) (a' := ?_) #[true, true, true, true, true, false, false, false, false, false, false, false, false, false, false, false, false, false, false, false, false, false, false, false, false, false, false, false, false, false, false, false, false, false, false, false] rfl rfl (any_of HT_.out t1_) (fun _ _ _ h => h) (Or.inl ⟨by rfl, ?_⟩) ?_ ?_
                rotate_left
                ·
                 intro w'
                 go_simp
                 with_reducible rfl
                rotate_left
                ·
                 simp only [Act.put, List.setIfInBounds_toArray, List.set_cons_zero, List.set_cons_succ, i64_w, i32_w]
                 rfl
                refine pure_ (i := 5) (N := some 30) (v := ?_) (a' := ?_) #[true, true, true, true, true, true, false, false, false, false, false, false, false, false, false, false, false, false, false, false, false, false, false, false, false, false, false, false, false, false, false, false, false, false, false, false] rfl rfl (any_of HT_.out t1_) (fun _ _ _ h => h) (Or.inl ⟨by rfl, ?_⟩) ?_ ?_
                rotate_left
                ·
                 intro w'
                 go_simp
                 with_reducible rfl
                rotate_left
                ·
                 simp only [Act.put, List.setIfInBounds_toArray, List.set_cons_zero, List.set_cons_succ, i64_w, i32_w]
                 rfl
                refine pure_ (i := 6) (N := some 31) (v := ?_) (a' := ?_) #[true, true, true, true, true, true, true, false, false, false, false, false, false, false, false, false, false, false, false, false, false, false, false, false, false, false, false, false, false, false, false, false, false, false, false, false] rfl rfl (any_of HT_.out t1_) (fun _ _ _ h => h) (Or.inl ⟨by rfl, ?_⟩) ?_ ?_
                rotate_left
                ·
                 intro w'
                 go_simp
                 with_reducible rfl
                rotate_left
                ·
                 simp only [Act.put, List.setIfInBounds_toArray, List.set_cons_zero, List.set_cons_succ, i64_w, i32_w]
                 rfl
                refine take_ (i := 7) (N := some 32) (v := ?_) (a' := ?_) #[true, true, true, true, true, true, true, true, false, false, false, false, false, false, false, false, false, false, false, false, false, false, false, false, false, false, false, false, false, false, false, false, false, false, false, false] rfl rfl (take_ofW HT_.out HW_.out t1_) (fun _ _ _ h => h) (Or.inl ⟨by rfl, ?_⟩) hHeld ?_ ?_
                rotate_left
                ·
                 rintro w' ⟨s0, s1, s2⟩
                 go_simp
                 with_reducible rfl
                rotate_left
                ·
                 simp only [Act.put, List.setIfInBounds_toArray, List.set_cons_zero, List.set_cons_succ, i64_w, i32_w]
                 rfl
                refine one_ (i := 8) (N := some 33) #[true, true, true, true, true, true, true, true, true, false, false, false, false, false, false, false, false, false, false, false, false, false, false, false, false, false, false, false, false, false, false, false, false, false, false, false] rfl rfl (one_of HT_.out t1_) t29_ (fun K hK => ?_)
                refine goes_ Try.func36 t1_ rfl #[.agg #[.int .i64 ((rd_T43 t106 x21_2).f0), .int .i64 ((rd_T43 t106 x21_2).f1)]] (by rfl) rfl rfl (by (try simp only [m1_, m2_, m3_]); first | done | rfl) ?_
                with_reducible refine (impl_Dart_score.calls ((rd_T43 t106 x21_2).f0) ((rd_T43 t106 x21_2).f1) t112 _ A19.out).mono ?_
                rintro e w75 ⟨rfl, hb⟩; have HS2_ := (hb.cell (World.block_lt_of_cell? _ _ (hHeld.2.2))).trans (hHeld.2.2)
                refine ⟨_, rfl, ?_⟩
                have n0_ := a_ (Kd.R_below (R_ HO_3.out) hb); have n1_ := a_ (Kd.R_below (R_ HO_19.out) hb); have n2_ := bb_ BK110 hb; have n3_ := a_ (below_step (L_ HB.out GE110.out GE110.out GE110.out) hb); clear HO_3; clear HO_19; clear BK110; clear HB; have HO_3 := n0_; have HO_19 := n1_; have BK110 := n2_; have HB := n3_; clear n0_ n1_ n2_ n3_
                (try clear hb)
                (try clear hb2)
                (try clear hk)
                (try clear hi)
                refine hK.out _ _ ⟨c_ BK110.out 0, c_ BK110.out 1, HS2_⟩ (fun hHeld => ?_)
                clear hK K
                refine norm_ (a' := ?_) ?_ ?_
                rotate_left
                ·
                 show Act.put _ (some 33) _ = _
                 simp only [Act.put, List.setIfInBounds_toArray, List.set_cons_zero, List.set_cons_succ, i64_w, i32_w]
                 rfl
                refine pure_ (i := 9) (N := some 34) (v := ?_) (a' := ?_) #[true, true, true, true, true, true, true, true, true, true, false, false, false, false, false, false, false, false, false, false, false, false, false, false, false, false, false, false, false, false, false, false, false, false, false, false] rfl rfl (any_of HT_.out t1_) (fun _ _ _ h => h) (Or.inl ⟨by rfl, ?_⟩) ?_ ?_
                rotate_left
                ·
                 intro w'
                 go_simp
                 with_reducible rfl
                rotate_left
                ·
                 simp only [Act.put, List.setIfInBounds_toArray, List.set_cons_zero, List.set_cons_succ, i64_w, i32_w]
                 rfl
                refine pure_ (i := 10) (N := some 35) (v := ?_) (a' := ?_) #[true, true, true, true, true, true, true, true, true, true, true, false, false, false, false, false, false, false, false, false, false, false, false, false, false, false, false, false, false, false, false, false, false, false, false, false] rfl rfl (any_of HT_.out t1_) (fun _ _ _ h => h) (Or.inl ⟨by rfl, ?_⟩) ?_ ?_
                rotate_left
                ·
                 intro w'
                 go_simp
                 with_reducible rfl
                rotate_left
                ·
                 simp only [Act.put, List.setIfInBounds_toArray, List.set_cons_zero, List.set_cons_succ, i64_w, i32_w]
                 rfl
                refine take_ (i := 11) (N := some 36) (v := ?_) (a' := ?_) #[true, true, true, true, true, true, true, true, true, true, true, true, false, false, false, false, false, false, false, false, false, false, false, false, false, false, false, false, false, false, false, false, false, false, false, false] rfl rfl (take_ofW HT_.out HW_.out t1_) (fun _ _ _ h => h) (Or.inl ⟨by rfl, ?_⟩) hHeld ?_ ?_
                rotate_left
                ·
                 rintro w' ⟨s0, s1, s2⟩
                 go_simp
                 with_reducible rfl
                rotate_left
                ·
                 simp only [Act.put, List.setIfInBounds_toArray, List.set_cons_zero, List.set_cons_succ, i64_w, i32_w]
                 rfl
                refine pure_ (i := 12) (N := some 37) (v := ?_) (a' := ?_) #[true, true, true, true, true, true, true, true, true, true, true, true, true, false, false, false, false, false, false, false, false, false, false, false, false, false, false, false, false, false, false, false, false, false, false, false] rfl rfl (any_of HT_.out t1_) (fun _ _ _ h => h) (Or.inl ⟨by rfl, ?_⟩) ?_ ?_
                rotate_left
                ·
                 intro w'
                 go_simp
                 with_reducible rfl
                rotate_left
                ·
                 simp only [Act.put, List.setIfInBounds_toArray, List.set_cons_zero, List.set_cons_succ, i64_w, i32_w]
                 rfl
                refine pure_ (i := 13) (N := some 38) (v := ?_) (a' := ?_) #[true, true, true, true, true, true, true, true, true, true, true, true, true, true, false, false, false, false, false, false, false, false, false, false, false, false, false, false, false, false, false, false, false, false, false, false] rfl rfl (any_of HT_.out t1_) (fun _ _ _ h => h) (Or.inl ⟨by rfl, ?_⟩) ?_ ?_
                rotate_left
                ·
                 intro w'
                 go_simp
                 with_reducible rfl
                rotate_left
                ·
                 simp only [Act.put, List.setIfInBounds_toArray, List.set_cons_zero, List.set_cons_succ, i64_w, i32_w]
                 rfl
                refine pure_ (i := 14) (N := some 39) (v := ?_) (a' := ?_) #[true, true, true, true, true, true, true, true, true, true, true, true, true, true, true, false, false, false, false, false, false, false, false, false, false, false, false, false, false, false, false, false, false, false, false, false] rfl rfl (any_of HT_.out t1_) (fun _ _ _ h => h) (Or.inl ⟨by rfl, ?_⟩) ?_ ?_
                rotate_left
                ·
                 intro w'
                 go_simp
                 with_reducible rfl
                rotate_left
                ·
                 simp only [Act.put, List.setIfInBounds_toArray, List.set_cons_zero, List.set_cons_succ, i64_w, i32_w]
                 rfl
                refine pure_ (i := 15) (N := some 40) (v := undef) (a' := ?_) #[true, true, true, true, true, true, true, true, true, true, true, true, true, true, true, true, false, false, false, false, false, false, false, false, false, false, false, false, false, false, false, false, false, false, false, false] rfl rfl (any_of HT_.out t1_) (fun _ _ _ h => h) (Or.inr ⟨by rfl, rfl⟩) ?_ ?_
                rotate_left
                ·
                 simp only [Act.put, List.setIfInBounds_toArray, List.set_cons_zero, List.set_cons_succ, i64_w, i32_w]
                 rfl
                refine pure_ (i := 16) (N := some 41) (v := undef) (a' := ?_) #[true, true, true, true, true, true, true, true, true, true, true, true, true, true, true, true, true, false, false, false, false, false, false, false, false, false, false, false, false, false, false, false, false, false, false, false] rfl rfl (any_of HT_.out t1_) (fun _ _ _ h => h) (Or.inr ⟨by rfl, rfl⟩) ?_ ?_
                rotate_left
                ·
                 simp only [Act.put, List.setIfInBounds_toArray, List.set_cons_zero, List.set_cons_succ, i64_w, i32_w]
                 rfl
                refine pure_ (i := 17) (N := some 42) (v := undef) (a' := ?_) #[true, true, true, true, true, true, true, true, true, true, true, true, true, true, true, true, true, true, false, false, false, false, false, false, false, false, false, false, false, false, false, false, false, false, false, false] rfl rfl (any_of HT_.out t1_) (fun _ _ _ h => h) (Or.inr ⟨by rfl, rfl⟩) ?_ ?_
                rotate_left
                ·
                 simp only [Act.put, List.setIfInBounds_toArray, List.set_cons_zero, List.set_cons_succ, i64_w, i32_w]
                 rfl
                refine pure_ (i := 18) (N := some 43) (v := undef) (a' := ?_) #[true, true, true, true, true, true, true, true, true, true, true, true, true, true, true, true, true, true, true, false, false, false, false, false, false, false, false, false, false, false, false, false, false, false, false, false] rfl rfl (any_of HT_.out t1_) (fun _ _ _ h => h) (Or.inr ⟨by rfl, rfl⟩) ?_ ?_
                rotate_left
                ·
                 simp only [Act.put, List.setIfInBounds_toArray, List.set_cons_zero, List.set_cons_succ, i64_w, i32_w]
                 rfl
                refine pure_ (i := 19) (N := some 44) (v := undef) (a' := ?_) #[true, true, true, true, true, true, true, true, true, true, true, true, true, true, true, true, true, true, true, true, false, false, false, false, false, false, false, false, false, false, false, false, false, false, false, false] rfl rfl (any_of HT_.out t1_) (fun _ _ _ h => h) (Or.inr ⟨by rfl, rfl⟩) ?_ ?_
                rotate_left
                ·
                 simp only [Act.put, List.setIfInBounds_toArray, List.set_cons_zero, List.set_cons_succ, i64_w, i32_w]
                 rfl
                refine pure_ (i := 20) (N := some 45) (v := undef) (a' := ?_) #[true, true, true, true, true, true, true, true, true, true, true, true, true, true, true, true, true, true, true, true, true, false, false, false, false, false, false, false, false, false, false, false, false, false, false, false] rfl rfl (any_of HT_.out t1_) (fun _ _ _ h => h) (Or.inr ⟨by rfl, rfl⟩) ?_ ?_
                rotate_left
                ·
                 simp only [Act.put, List.setIfInBounds_toArray, List.set_cons_zero, List.set_cons_succ, i64_w, i32_w]
                 rfl
                refine pure_ (i := 21) (N := some 46) (v := undef) (a' := ?_) #[true, true, true, true, true, true, true, true, true, true, true, true, true, true, true, true, true, true, true, true, true, true, false, false, false, false, false, false, false, false, false, false, false, false, false, false] rfl rfl (any_of HT_.out t1_) (fun _ _ _ h => h) (Or.inr ⟨by rfl, rfl⟩) ?_ ?_
                rotate_left
                ·
                 simp only [Act.put, List.setIfInBounds_toArray, List.set_cons_zero, List.set_cons_succ, i64_w, i32_w]
                 rfl
                refine pure_ (i := 22) (N := some 47) (v := undef) (a' := ?_) #[true, true, true, true, true, true, true, true, true, true, true, true, true, true, true, true, true, true, true, true, true, true, true, false, false, false, false, false, false, false, false, false, false, false, false, false] rfl rfl (any_of HT_.out t1_) (fun _ _ _ h => h) (Or.inr ⟨by rfl, rfl⟩) ?_ ?_
                rotate_left
                ·
                 simp only [Act.put, List.setIfInBounds_toArray, List.set_cons_zero, List.set_cons_succ, i64_w, i32_w]
                 rfl
                refine pure_ (i := 23) (N := some 48) (v := undef) (a' := ?_) #[true, true, true, true, true, true, true, true, true, true, true, true, true, true, true, true, true, true, true, true, true, true, true, true, false, false, false, false, false, false, false, false, false, false, false, false] rfl rfl (any_of HT_.out t1_) (fun _ _ _ h => h) (Or.inr ⟨by rfl, rfl⟩) ?_ ?_
                rotate_left
                ·
                 simp only [Act.put, List.setIfInBounds_toArray, List.set_cons_zero, List.set_cons_succ, i64_w, i32_w]
                 rfl
                refine pure_ (i := 24) (N := some 49) (v := undef) (a' := ?_) #[true, true, true, true, true, true, true, true, true, true, true, true, true, true, true, true, true, true, true, true, true, true, true, true, true, false, false, false, false, false, false, false, false, false, false, false] rfl rfl (any_of HT_.out t1_) (fun _ _ _ h => h) (Or.inr ⟨by rfl, rfl⟩) ?_ ?_
                rotate_left
                ·
                 simp only [Act.put, List.setIfInBounds_toArray, List.set_cons_zero, List.set_cons_succ, i64_w, i32_w]
                 rfl
                refine pure_ (i := 25) (N := some 50) (v := undef) (a' := ?_) #[true, true, true, true, true, true, true, true, true, true, true, true, true, true, true, true, true, true, true, true, true, true, true, true, true, true, false, false, false, false, false, false, false, false, false, false] rfl rfl (any_of HT_.out t1_) (fun _ _ _ h => h) (Or.inr ⟨by rfl, rfl⟩) ?_ ?_
                rotate_left
                ·
                 simp only [Act.put, List.setIfInBounds_toArray, List.set_cons_zero, List.set_cons_succ, i64_w, i32_w]
                 rfl
                refine pure_ (i := 26) (N := some 51) (v := undef) (a' := ?_) #[true, true, true, true, true, true, true, true, true, true, true, true, true, true, true, true, true, true, true, true, true, true, true, true, true, true, true, false, false, false, false, false, false, false, false, false] rfl rfl (any_of HT_.out t1_) (fun _ _ _ h => h) (Or.inr ⟨by rfl, rfl⟩) ?_ ?_
                rotate_left
                ·
                 simp only [Act.put, List.setIfInBounds_toArray, List.set_cons_zero, List.set_cons_succ, i64_w, i32_w]
                 rfl
                refine pure_ (i := 27) (N := some 52) (v := undef) (a' := ?_) #[true, true, true, true, true, true, true, true, true, true, true, true, true, true, true, true, true, true, true, true, true, true, true, true, true, true, true, true, false, false, false, false, false, false, false, false] rfl rfl (any_of HT_.out t1_) (fun _ _ _ h => h) (Or.inr ⟨by rfl, rfl⟩) ?_ ?_
                rotate_left
                ·
                 simp only [Act.put, List.setIfInBounds_toArray, List.set_cons_zero, List.set_cons_succ, i64_w, i32_w]
                 rfl
                refine pure_ (i := 28) (N := some 53) (v := undef) (a' := ?_) #[true, true, true, true, true, true, true, true, true, true, true, true, true, true, true, true, true, true, true, true, true, true, true, true, true, true, true, true, true, false, false, false, false, false, false, false] rfl rfl (any_of HT_.out t1_) (fun _ _ _ h => h) (Or.inr ⟨by rfl, rfl⟩) ?_ ?_
                rotate_left
                ·
                 simp only [Act.put, List.setIfInBounds_toArray, List.set_cons_zero, List.set_cons_succ, i64_w, i32_w]
                 rfl
                refine pure_ (i := 29) (N := some 54) (v := undef) (a' := ?_) #[true, true, true, true, true, true, true, true, true, true, true, true, true, true, true, true, true, true, true, true, true, true, true, true, true, true, true, true, true, true, false, false, false, false, false, false] rfl rfl (any_of HT_.out t1_) (fun _ _ _ h => h) (Or.inr ⟨by rfl, rfl⟩) ?_ ?_
                rotate_left
                ·
                 simp only [Act.put, List.setIfInBounds_toArray, List.set_cons_zero, List.set_cons_succ, i64_w, i32_w]
                 rfl
                refine pure_ (i := 30) (N := some 55) (v := undef) (a' := ?_) #[true, true, true, true, true, true, true, true, true, true, true, true, true, true, true, true, true, true, true, true, true, true, true, true, true, true, true, true, true, true, true, false, false, false, false, false] rfl rfl (any_of HT_.out t1_) (fun _ _ _ h => h) (Or.inr ⟨by rfl, rfl⟩) ?_ ?_
                rotate_left
                ·
                 simp only [Act.put, List.setIfInBounds_toArray, List.set_cons_zero, List.set_cons_succ, i64_w, i32_w]
                 rfl
                refine pure_ (i := 31) (N := some 56) (v := undef) (a' := ?_) #[true, true, true, true, true, true, true, true, true, true, true, true, true, true, true, true, true, true, true, true, true, true, true, true, true, true, true, true, true, true, true, true, false, false, false, false] rfl rfl (any_of HT_.out t1_) (fun _ _ _ h => h) (Or.inr ⟨by rfl, rfl⟩) ?_ ?_
                rotate_left
                ·
                 simp only [Act.put, List.setIfInBounds_toArray, List.set_cons_zero, List.set_cons_succ, i64_w, i32_w]
                 rfl
                refine pure_ (i := 32) (N := some 57) (v := undef) (a' := ?_) #[true, true, true, true, true, true, true, true, true, true, true, true, true, true, true, true, true, true, true, true, true, true, true, true, true, true, true, true, true, true, true, true, true, false, false, false] rfl rfl (any_of HT_.out t1_) (fun _ _ _ h => h) (Or.inr ⟨by rfl, rfl⟩) ?_ ?_
                rotate_left
                ·
                 simp only [Act.put, List.setIfInBounds_toArray, List.set_cons_zero, List.set_cons_succ, i64_w, i32_w]
                 rfl
                refine pure_ (i := 33) (N := some 58) (v := undef) (a' := ?_) #[true, true, true, true, true, true, true, true, true, true, true, true, true, true, true, true, true, true, true, true, true, true, true, true, true, true, true, true, true, true, true, true, true, true, false, false] rfl rfl (any_of HT_.out t1_) (fun _ _ _ h => h) (Or.inr ⟨by rfl, rfl⟩) ?_ ?_
                rotate_left
                ·
                 simp only [Act.put, List.setIfInBounds_toArray, List.set_cons_zero, List.set_cons_succ, i64_w, i32_w]
                 rfl
                refine pure_ (i := 34) (N := some 59) (v := undef) (a' := ?_) #[true, true, true, true, true, true, true, true, true, true, true, true, true, true, true, true, true, true, true, true, true, true, true, true, true, true, true, true, true, true, true, true, true, true, true, false] rfl rfl (any_of HT_.out t1_) (fun _ _ _ h => h) (Or.inr ⟨by rfl, rfl⟩) ?_ ?_
                rotate_left
                ·
                 simp only [Act.put, List.setIfInBounds_toArray, List.set_cons_zero, List.set_cons_succ, i64_w, i32_w]
                 rfl
                refine pure_ (i := 35) (N := some 60) (v := ?_) (a' := ?_) #[true, true, true, true, true, true, true, true, true, true, true, true, true, true, true, true, true, true, true, true, true, true, true, true, true, true, true, true, true, true, true, true, true, true, true, true] rfl rfl (any_of HT_.out t1_) (fun _ _ _ h => h) (Or.inl ⟨by rfl, ?_⟩) ?_ ?_
                rotate_left
                ·
                 intro w'
                 go_simp
                 with_reducible rfl
                rotate_left
                ·
                 simp only [Act.put, List.setIfInBounds_toArray, List.set_cons_zero, List.set_cons_succ, i64_w, i32_w]
                 rfl
                refine done_ (done_of HT_.out t1_) ?_
                try go_wp2
                (try simp only [← hl3_2])
                go_roundg k2
                case measure => have := HK1.out; have := HK2.out; omega
                case rel => exact ⟨(x3_2), (wrap64 (x21_2 + 1)), t2_, H', ⟨t41_⟩, ⟨t32_⟩, ⟨t30_⟩, ⟨L_ HB.out GE110.out GE110.out GE110.out⟩⟩
              ·
               rw [if_neg c22] at H
               exact absurd H t31_
             ·
              rw [if_neg c21] at H
              exact absurd H t31_
            ·
             rw [if_neg c18] at H; have c18b0 : decide (t111 ≤ x4_1) = false := decide_eq_false c18; clear c18; have H' := a_ H; clear H; have p109 : 0 ≤ (x21_2 : Int) := of_decide_eq_true t0_; have q109 : x21_2 < (t106.length : Int) := of_decide_eq_true t0_; obtain ⟨ad109, e109, hx109_0, hx109_1⟩ := at_T43 (Kd.R_reads' HO_19.out).2.2 x21_2 p109 q109
             cases e109
             replace p109 := eq_true p109; replace q109 := eq_true q109
             try go_wp2_with (first | ((with_reducible refine gate_dst (N := 6) rfl ?_); refine box_event ?hg (N := 6) ?hd (cs := #[.int .i64 0, .int .i64 0]) (t := 43) ?hr ?_; (case hd => rfl); (case hg => rfl); (case hr => first | (go_simp; done) | (go_simp; rfl)); intro gb110 hg w76 hbox hb; have n0_ := a_ (Kd.R_below (R_ HO_3.out) hb); have n1_ := a_ (Kd.R_below (Kd.R_elderB (R_ HO_19.out) gb110 (Nat.le_of_eq hg.symm)) hb); have n2_ := a_ (below_step (L_ HB.out (Nat.le_refl _) (Nat.le_refl _) (Nat.le_refl _)) hb); have n3_ := a_ (hbox); have n4_ := a_ ((by rw [hg]; exact (below_size (L_ HB.out (Nat.le_refl _) (Nat.le_refl _) (Nat.le_refl _))) : w.heap.size ≤ gb110)); have n5_ := a_ ((by rw [hg]; exact (below_size (L_ HB.out (Nat.le_refl _) (Nat.le_refl _) (Nat.le_refl _))) : w.heap.size ≤ gb110)); clear HO_3; clear HO_19; clear HB; have HO_3 := n0_; have HO_19 := n1_; have HB := n2_; have BK110 := n3_; have GW110 := n4_; have GE110 := n5_; clear n0_ n1_ n2_ n3_ n4_ n5_; clear hb hbox hg; have hcz77_0 : w76.cell? ⟨gb110, 0, none⟩ = some (.int .i64 0) := c_ BK110.out 0; have hcz77_1 : w76.cell? ⟨gb110, 1, none⟩ = some (.int .i64 0) := c_ BK110.out 1; have hfz77_0 := blk_frozen BK110.out 0; have hfz77_1 := blk_frozen BK110.out 1))
             have n0_ : Aside0 (Kd.R (Kd.int .i64) 3 ((w76.setCell ⟨gb110, 0, none⟩ (.int .i64 ((rd_T43 t106 x21_2).f0))).setCell ⟨gb110, 1, none⟩ (.int .i64 ((rd_T43 t106 x21_2).f1))) w.heap.size (fun _ => True) (.slice (some ⟨go8, 0, none⟩) x3_2.length co8) x3_2) := ⟨t12_⟩; have n1_ : Aside0 (Kd.R k43 43 ((w76.setCell ⟨gb110, 0, none⟩ (.int .i64 ((rd_T43 t106 x21_2).f0))).setCell ⟨gb110, 1, none⟩ (.int .i64 ((rd_T43 t106 x21_2).f1))) w.heap.size (fun k_ => k_ ≠ gb110) (.slice (some ad109) t106.length co13) t106) := ⟨t9_⟩; have n2_ : Aside0 (((w76.setCell ⟨gb110, 0, none⟩ (.int .i64 ((rd_T43 t106 x21_2).f0))).setCell ⟨gb110, 1, none⟩ (.int .i64 ((rd_T43 t106 x21_2).f1))).heap[gb110]? = some (.cells #[.int .i64 ((rd_T43 t106 x21_2).f0), .int .i64 ((rd_T43 t106 x21_2).f1)] 43 (0, 0))) := ⟨t11_⟩; have n3_ : Aside0 (Below w.heap.size w ((w76.setCell ⟨gb110, 0, none⟩ (.int .i64 ((rd_T43 t106 x21_2).f0))).setCell ⟨gb110, 1, none⟩ (.int .i64 ((rd_T43 t106 x21_2).f1)))) := ⟨L_ HB.out GE110.out GE110.out GE110.out⟩
             (try clear HO_3)
             (try clear HO_19)
             (try clear BK110)
             (try clear HB)
             generalize ((w76.setCell ⟨gb110, 0, none⟩ (.int .i64 ((rd_T43 t106 x21_2).f0))).setCell ⟨gb110, 1, none⟩ (.int .i64 ((rd_T43 t106 x21_2).f1))) = w78 at n0_ n1_ n2_ n3_ ⊢; have HO_3 := n0_; have HO_19 := n1_; have BK110 := n2_; have HB := n3_; clear n0_ n1_ n2_ n3_; have n0_ := a_ (Kd.R_drew HO_3.out); have n1_ := a_ (Kd.R_drew HO_19.out); have n2_ := a_ (blk_drew BK110.out); have n3_ := a_ (below_drew1 HB.out); clear HO_3; clear HO_19; clear BK110; clear HB; have HO_3 := n0_; have HO_19 := n1_; have BK110 := n2_; have HB := n3_; clear n0_ n1_ n2_ n3_
             refine start_ (n := 36) (S := fun w' => w'.cell? ⟨gb110, 0, none⟩ = some (.int .i64 ((rd_T43 t106 x21_2).f0)) ∧ w'.cell? ⟨gb110, 1, none⟩ = some (.int .i64 ((rd_T43 t106 x21_2).f1))) (ds := []) #[false, false, false, false, false, false, false, false, false, false, false, false, false, false, false, false, false, false, false, false, false, false, false, false, false, false, false, false, false, false, false, false, false, false, false, false] t1_ rfl rfl ⟨c_ BK110.out 0, c_ BK110.out 1⟩ (fun hHeld => ?_); refine with_tabW fewP.tab9 fewP.bits9 (fun HT_ HW_ => ?_)
             generalize w78.drew = w79 at HO_3 HO_19 BK110 HB hHeld ⊢
             refine pure_ (i := 2) (N := some 27) (v := ?_) (a' := ?_) #[false, false, true, false, false, false, false, false, false, false, false, false, false, false, false, false, false, false, false, false, false, false, false, false, false, false, false, false, false, false, false, false, false, false, false, false] rfl rfl (any_of HT_.out t1_) (fun _ _ _ h => h) (Or.inl ⟨by rfl, ?_⟩) ?_ ?_
             rotate_left
             ·
              intro w'
              go_simp
              with_reducible rfl
             rotate_left
             ·
              simp only [Act.put, List.setIfInBounds_toArray, List.set_cons_zero, List.set_cons_succ, i64_w, i32_w]
              rfl
             refine take_ (i := 0) (N := some 25) (v := ?_) (a' := ?_) #[true, false, true, false, false, false, false, false, false, false, false, false, false, false, false, false, false, false, false, false, false, false, false, false, false, false, false, false, false, false, false, false, false, false, false, false] rfl rfl (take_ofW HT_.out HW_.out t1_) (fun _ _ _ h => h) (Or.inl ⟨by rfl, ?_⟩) hHeld ?_ ?_
             rotate_left
             ·
              rintro w' ⟨s0, s1⟩
              go_simp
              with_reducible rfl
             rotate_left
             ·
              simp only [Act.put, List.setIfInBounds_toArray, List.set_cons_zero, List.set_cons_succ, i64_w, i32_w]
              rfl
             refine one_ (i := 1) (N := some 26) #[true, true, true, false, false, false, false, false, false, false, false, false, false, false, false, false, false, false, false, false, false, false, false, false, false, false, false, false, false, false, false, false, false, false, false, false] rfl rfl (one_of HT_.out t1_) t29_ (fun K hK => ?_)
             refine goes_ Try.func36 t1_ rfl #[.agg #[.int .i64 ((rd_T43 t106 x21_2).f0), .int .i64 ((rd_T43 t106 x21_2).f1)]] (by rfl) rfl rfl (by (try simp only [m1_, m2_, m3_]); first | done | rfl) ?_
             with_reducible refine (impl_Dart_score.calls ((rd_T43 t106 x21_2).f0) ((rd_T43 t106 x21_2).f1) t111 _ A17.out).mono ?_
             rintro e w80 ⟨rfl, hb⟩
             refine ⟨_, rfl, ?_⟩
             have n0_ := a_ (Kd.R_below (R_ HO_3.out) hb); have n1_ := a_ (Kd.R_below (R_ HO_19.out) hb); have n2_ := bb_ BK110 hb; have n3_ := a_ (below_step (L_ HB.out GE110.out GE110.out GE110.out) hb); clear HO_3; clear HO_19; clear BK110; clear HB; have HO_3 := n0_; have HO_19 := n1_; have BK110 := n2_; have HB := n3_; clear n0_ n1_ n2_ n3_
             (try clear hb)
             (try clear hb2)
             (try clear hk)
             (try clear hi)
             refine hK.out _ _ ⟨c_ BK110.out 0, c_ BK110.out 1⟩ (fun hHeld => ?_)
             clear hK K
             refine norm_ (a' := ?_) ?_ ?_
             rotate_left
             ·
              show Act.put _ (some 26) _ = _
              simp only [Act.put, List.setIfInBounds_toArray, List.set_cons_zero, List.set_cons_succ, i64_w, i32_w]
              rfl
             refine pure_ (i := 3) (N := some 28) (v := ?_) (a' := ?_) #[true, true, true, true, false, false, false, false, false, false, false, false, false, false, false, false, false, false, false, false, false, false, false, false, false, false, false, false, false, false, false, false, false, false, false, false] rfl rfl (any_of HT_.out t1_) (fun _ _ _ h => h) (Or.inl ⟨by rfl, ?_⟩) ?_ ?_
             rotate_left
             ·
              intro w'
              go_simp
              with_reducible rfl
             rotate_left
             ·
              simp only [Act.put, List.setIfInBounds_toArray, List.set_cons_zero, List.set_cons_succ, i64_w, i32_w]
              rfl
             refine pure_ (i := 4) (N := some 29) (v := ?_) (a' := ?_) #[true, true, true, true, true, false, false, false, false, false, false, false, false, false, false, false, false, false, false, false, false, false, false, false, false, false, false, false, false, false, false, false, false, false, false, false] rfl rfl (any_of HT_.out t1_) (fun _ _ _ h => h) (Or.inl ⟨by rfl, ?_⟩) ?_ ?_
             rotate_left
             ·
              intro w'
              go_simp
              with_reducible rfl
             rotate_left
             ·
              simp only [Act.put, List.setIfInBounds_toArray, List.set_cons_zero, List.set_cons_succ, i64_w, i32_w]
              rfl
             refine pure_ (i := 5) (N := some 30) (v := undef) (a' := ?_) #[true, true, true, true, true, true, false, false, false, false, false, false, false, false, false, false, false, false, false, false, false, false, false, false, false, false, false, false, false, false, false, false, false, false, false, false] rfl rfl (any_of HT_.out t1_) (fun _ _ _ h => h) (Or.inr ⟨by rfl, rfl⟩) ?_ ?_
             rotate_left
             ·
              simp only [Act.put, List.setIfInBounds_toArray, List.set_cons_zero, List.set_cons_succ, i64_w, i32_w]
              rfl
             refine pure_ (i := 6) (N := some 31) (v := undef) (a' := ?_) #[true, true, true, true, true, true, true, false, false, false, false, false, false, false, false, false, false, false, false, false, false, false, false, false, false, false, false, false, false, false, false, false, false, false, false, false] rfl rfl (any_of HT_.out t1_) (fun _ _ _ h => h) (Or.inr ⟨by rfl, rfl⟩) ?_ ?_
             rotate_left
             ·
              simp only [Act.put, List.setIfInBounds_toArray, List.set_cons_zero, List.set_cons_succ, i64_w, i32_w]
              rfl
             refine pure_ (i := 7) (N := some 32) (v := undef) (a' := ?_) #[true, true, true, true, true, true, true, true, false, false, false, false, false, false, false, false, false, false, false, false, false, false, false, false, false, false, false, false, false, false, false, false, false, false, false, false] rfl rfl (any_of HT_.out t1_) (fun _ _ _ h => h) (Or.inr ⟨by rfl, rfl⟩) ?_ ?_
             rotate_left
             ·
              simp only [Act.put, List.setIfInBounds_toArray, List.set_cons_zero, List.set_cons_succ, i64_w, i32_w]
              rfl
             refine pure_ (i := 8) (N := some 33) (v := undef) (a' := ?_) #[true, true, true, true, true, true, true, true, true, false, false, false, false, false, false, false, false, false, false, false, false, false, false, false, false, false, false, false, false, false, false, false, false, false, false, false] rfl rfl (any_of HT_.out t1_) (fun _ _ _ h => h) (Or.inr ⟨by rfl, rfl⟩) ?_ ?_
             rotate_left
             ·
              simp only [Act.put, List.setIfInBounds_toArray, List.set_cons_zero, List.set_cons_succ, i64_w, i32_w]
              rfl
             refine pure_ (i := 9) (N := some 34) (v := undef) (a' := ?_) #[true, true, true, true, true, true, true, true, true, true, false, false, false, false, false, false, false, false, false, false, false, false, false, false, false, false, false, false, false, false, false, false, false, false, false, false] rfl rfl (any_of HT_.out t1_) (fun _ _ _ h => h) (Or.inr ⟨by rfl, rfl⟩) ?_ ?_
             rotate_left
             ·
              simp only [Act.put, List.setIfInBounds_toArray, List.set_cons_zero, List.set_cons_succ, i64_w, i32_w]
              rfl
             refine pure_ (i := 10) (N := some 35) (v := undef) (a' := ?_) #[true, true, true, true, true, true, true, true, true, true, true, false, false, false, false, false, false, false, false, false, false, false, false, false, false, false, false, false, false, false, false, false, false, false, false, false] rfl rfl (any_of HT_.out t1_) (fun _ _ _ h => h) (Or.inr ⟨by rfl, rfl⟩) ?_ ?_
             rotate_left
             ·
              simp only [Act.put, List.setIfInBounds_toArray, List.set_cons_zero, List.set_cons_succ, i64_w, i32_w]
              rfl
             refine pure_ (i := 11) (N := some 36) (v := undef) (a' := ?_) #[true, true, true, true, true, true, true, true, true, true, true, true, false, false, false, false, false, false, false, false, false, false, false, false, false, false, false, false, false, false, false, false, false, false, false, false] rfl rfl (any_of HT_.out t1_) (fun _ _ _ h => h) (Or.inr ⟨by rfl, rfl⟩) ?_ ?_
             rotate_left
             ·
              simp only [Act.put, List.setIfInBounds_toArray, List.set_cons_zero, List.set_cons_succ, i64_w, i32_w]
              rfl
             refine pure_ (i := 12) (N := some 37) (v := undef) (a' := ?_) #[true, true, true, true, true, true, true, true, true, true, true, true, true, false, false, false, false, false, false, false, false, false, false, false, false, false, false, false, false, false, false, false, false, false, false, false] rfl rfl (any_of HT_.out t1_) (fun _ _ _ h => h) (Or.inr ⟨by rfl, rfl⟩) ?_ ?_
             rotate_left
             ·
              simp only [Act.put, List.setIfInBounds_toArray, List.set_cons_zero, List.set_cons_succ, i64_w, i32_w]
              rfl
             refine pure_ (i := 13) (N := some 38) (v := ?_) (a' := ?_) #[true, true, true, true, true, true, true, true, true, true, true, true, true, true, false, false, false, false, false, false, false, false, false, false, false, false, false, false, false, false, false, false, false, false, false, false] rfl rfl (any_of HT_.out t1_) (fun _ _ _ h => h) (Or.inl ⟨by rfl, ?_⟩) ?_ ?_
             rotate_left
             ·
              intro w'
              go_simp
              with_reducible rfl
             rotate_left
             ·
              simp only [Act.put, List.setIfInBounds_toArray, List.set_cons_zero, List.set_cons_succ, i64_w, i32_w]
              rfl
             refine pure_ (i := 14) (N := some 39) (v := ?_) (a' := ?_) #[true, true, true, true, true, true, true, true, true, true, true, true, true, true, true, false, false, false, false, false, false, false, false, false, false, false, false, false, false, false, false, false, false, false, false, false] rfl rfl (any_of HT_.out t1_) (fun _ _ _ h => h) (Or.inl ⟨by rfl, ?_⟩) ?_ ?_
             rotate_left
             ·
              intro w'
              go_simp
              with_reducible rfl
             rotate_left
             ·
              simp only [Act.put, List.setIfInBounds_toArray, List.set_cons_zero, List.set_cons_succ, i64_w, i32_w]
              rfl
             refine pure_ (i := 15) (N := some 40) (v := undef) (a' := ?_) #[true, true, true, true, true, true, true, true, true, true, true, true, true, true, true, true, false, false, false, false, false, false, false, false, false, false, false, false, false, false, false, false, false, false, false, false] rfl rfl (any_of HT_.out t1_) (fun _ _ _ h => h) (Or.inr ⟨by rfl, rfl⟩) ?_ ?_
             rotate_left
             ·
              simp only [Act.put, List.setIfInBounds_toArray, List.set_cons_zero, List.set_cons_succ, i64_w, i32_w]
              rfl
             refine pure_ (i := 16) (N := some 41) (v := undef) (a' := ?_) #[true, true, true, true, true, true, true, true, true, true, true, true, true, true, true, true, true, false, false, false, false, false, false, false, false, false, false, false, false, false, false, false, false, false, false, false] rfl rfl (any_of HT_.out t1_) (fun _ _ _ h => h) (Or.inr ⟨by rfl, rfl⟩) ?_ ?_
             rotate_left
             ·
              simp only [Act.put, List.setIfInBounds_toArray, List.set_cons_zero, List.set_cons_succ, i64_w, i32_w]
              rfl
             refine pure_ (i := 17) (N := some 42) (v := undef) (a' := ?_) #[true, true, true, true, true, true, true, true, true, true, true, true, true, true, true, true, true, true, false, false, false, false, false, false, false, false, false, false, false, false, false, false, false, false, false, false] rfl rfl (any_of HT_.out t1_) (fun _ _ _ h => h) (Or.inr ⟨by rfl, rfl⟩) ?_ ?_
             rotate_left
             ·
              simp only [Act.put, List.setIfInBounds_toArray, List.set_cons_zero, List.set_cons_succ, i64_w, i32_w]
              rfl
             refine pure_ (i := 18) (N := some 43) (v := undef) (a' := ?_) #[true, true, true, true, true, true, true, true, true, true, true, true, true, true, true, true, true, true, true, false, false, false, false, false, false, false, false, false, false, false, false, false, false, false, false, false] rfl rfl (any_of HT_.out t1_) (fun _ _ _ h => h) (Or.inr ⟨by rfl, rfl⟩) ?_ ?_
             rotate_left
             ·
              simp only [Act.put, List.setIfInBounds_toArray, List.set_cons_zero, List.set_cons_succ, i64_w, i32_w]
              rfl
             refine pure_ (i := 19) (N := some 44) (v := undef) (a' := ?_) #[true, true, true, true, true, true, true, true, true, true, true, true, true, true, true, true, true, true, true, true, false, false, false, false, false, false, false, false, false, false, false, false, false, false, false, false] rfl rfl (any_of HT_.out t1_) (fun _ _ _ h => h) (Or.inr ⟨by rfl, rfl⟩) ?_ ?_
             rotate_left
             ·
              simp only [Act.put, List.setIfInBounds_toArray, List.set_cons_zero, List.set_cons_succ, i64_w, i32_w]
              rfl
             refine pure_ (i := 20) (N := some 45) (v := undef) (a' := ?_) #[true, true, true, true, true, true, true, true, true, true, true, true, true, true, true, true, true, true, true, true, true, false, false, false, false, false, false, false, false, false, false, false, false, false, false, false] rfl rfl (any_of HT_.out t1_) (fun _ _ _ h => h) (Or.inr ⟨by rfl, rfl⟩) ?_ ?_
             rotate_left
             ·
              simp only [Act.put, List.setIfInBounds_toArray, List.set_cons_zero, List.set_cons_succ, i64_w, i32_w]
              rfl
             refine pure_ (i := 21) (N := some 46) (v := undef) (a' := ?_) #[true, true, true, true, true, true, true, true, true, true, true, true, true, true, true, true, true, true, true, true, true, true, false, false, false, false, false, false, false, false, false, false, false, false, false, false] rfl rfl (any_of HT_.out t1_) (fun _ _ _ h => h) (Or.inr ⟨by rfl, rfl⟩) ?_ ?_
             rotate_left
             ·
              simp only [Act.put, List.setIfInBounds_toArray, List.set_cons_zero, List.set_cons_succ, i64_w, i32_w]
              rfl
             refine pure_ (i := 22) (N := some 47) (v := undef) (a' := ?_) #[true, true, true, true, true, true, true, true, true, true, true, true, true, true, true, true, true, true, true, true, true, true, true, false, false, false, false, false, false, false, false, false, false, false, false, false] rfl rfl (any_of HT_.out t1_) (fun _ _ _ h => h) (Or.inr ⟨by rfl, rfl⟩) ?_ ?_
             rotate_left
             ·
              simp only [Act.put, List.setIfInBounds_toArray, List.set_cons_zero, List.set_cons_succ, i64_w, i32_w]
              rfl
             refine pure_ (i := 23) (N := some 48) (v := undef) (a' := ?_) #[true, true, true, true, true, true, true, true, true, true, true, true, true, true, true, true, true, true, true, true, true, true, true, true, false, false, false, false, false, false, false, false, false, false, false, false] rfl rfl (any_of HT_.out t1_) (fun _ _ _ h => h) (Or.inr ⟨by rfl, rfl⟩) ?_ ?_
             rotate_left
             ·
              simp only [Act.put, List.setIfInBounds_toArray, List.set_cons_zero, List.set_cons_succ, i64_w, i32_w]
              rfl
             refine pure_ (i := 24) (N := some 49) (v := undef) (a' := ?_) #[true, true, true, true, true, true, true, true, true, true, true, true, true, true, true, true, true, true, true, true, true, true, true, true, true, false, false, false, false, false, false, false, false, false, false, false] rfl rfl (any_of HT_.out t1_) (fun _ _ _ h => h) (Or.inr ⟨by rfl, rfl⟩) ?_ ?_
             rotate_left
             ·
              simp only [Act.put, List.setIfInBounds_toArray, List.set_cons_zero, List.set_cons_succ, i64_w, i32_w]
              rfl
             refine pure_ (i := 25) (N := some 50) (v := undef) (a' := ?_) #[true, true, true, true, true, true, true, true, true, true, true, true, true, true, true, true, true, true, true, true, true, true, true, true, true, true, false, false, false, false, false, false, false, false, false, false] rfl rfl (any_of HT_.out t1_) (fun _ _ _ h => h) (Or.inr ⟨by rfl, rfl⟩) ?_ ?_
             rotate_left
             ·
              simp only [Act.put, List.setIfInBounds_toArray, List.set_cons_zero, List.set_cons_succ, i64_w, i32_w]
              rfl
             refine pure_ (i := 26) (N := some 51) (v := undef) (a' := ?_) #[true, true, true, true, true, true, true, true, true, true, true, true, true, true, true, true, true, true, true, true, true, true, true, true, true, true, true, false, false, false, false, false, false, false, false, false] rfl rfl (any_of HT_.out t1_) (fun _ _ _ h => h) (Or.inr ⟨by rfl, rfl⟩) ?_ ?_
             rotate_left
             ·
              simp only [Act.put, List.setIfInBounds_toArray, List.set_cons_zero, List.set_cons_succ, i64_w, i32_w]
              rfl
             refine pure_ (i := 27) (N := some 52) (v := undef) (a' := ?_) #[true, true, true, true, true, true, true, true, true, true, true, true, true, true, true, true, true, true, true, true, true, true, true, true, true, true, true, true, false, false, false, false, false, false, false, false] rfl rfl (any_of HT_.out t1_) (fun _ _ _ h => h) (Or.inr ⟨by rfl, rfl⟩) ?_ ?_
             rotate_left
             ·
              simp only [Act.put, List.setIfInBounds_toArray, List.set_cons_zero, List.set_cons_succ, i64_w, i32_w]
              rfl
             refine pure_ (i := 28) (N := some 53) (v := undef) (a' := ?_) #[true, true, true, true, true, true, true, true, true, true, true, true, true, true, true, true, true, true, true, true, true, true, true, true, true, true, true, true, true, false, false, false, false, false, false, false] rfl rfl (any_of HT_.out t1_) (fun _ _ _ h => h) (Or.inr ⟨by rfl, rfl⟩) ?_ ?_
             rotate_left
             ·
              simp only [Act.put, List.setIfInBounds_toArray, List.set_cons_zero, List.set_cons_succ, i64_w, i32_w]
              rfl
             refine pure_ (i := 29) (N := some 54) (v := undef) (a' := ?_) #[true, true, true, true, true, true, true, true, true, true, true, true, true, true, true, true, true, true, true, true, true, true, true, true, true, true, true, true, true, true, false, false, false, false, false, false] rfl rfl (any_of HT_.out t1_) (fun _ _ _ h => h) (Or.inr ⟨by rfl, rfl⟩) ?_ ?_
             rotate_left
             ·
              simp only [Act.put, List.setIfInBounds_toArray, List.set_cons_zero, List.set_cons_succ, i64_w, i32_w]
              rfl
             refine pure_ (i := 30) (N := some 55) (v := undef) (a' := ?_) #[true, true, true, true, true, true, true, true, true, true, true, true, true, true, true, true, true, true, true, true, true, true, true, true, true, true, true, true, true, true, true, false, false, false, false, false] rfl rfl (any_of HT_.out t1_) (fun _ _ _ h => h) (Or.inr ⟨by rfl, rfl⟩) ?_ ?_
             rotate_left
             ·
              simp only [Act.put, List.setIfInBounds_toArray, List.set_cons_zero, List.set_cons_succ, i64_w, i32_w]
              rfl
             refine pure_ (i := 31) (N := some 56) (v := undef) (a' := ?_) #[true, true, true, true, true, true, true, true, true, true, true, true, true, true, true, true, true, true, true, true, true, true, true, true, true, true, true, true, true, true, true, true, false, false, false, false] rfl rfl (any_of HT_.out t1_) (fun _ _ _ h => h) (Or.inr ⟨by rfl, rfl⟩) ?_ ?_
             rotate_left
             ·
              simp only [Act.put, List.setIfInBounds_toArray, List.set_cons_zero, List.set_cons_succ, i64_w, i32_w]
              rfl
             refine pure_ (i := 32) (N := some 57) (v := undef) (a' := ?_) #[true, true, true, true, true, true, true, true, true, true, true, true, true, true, true, true, true, true, true, true, true, true, true, true, true, true, true, true, true, true, true, true, true, false, false, false] rfl rfl (any_of HT_.out t1_) (fun _ _ _ h => h) (Or.inr ⟨by rfl, rfl⟩) ?_ ?_
             rotate_left
             ·
              simp only [Act.put, List.setIfInBounds_toArray, List.set_cons_zero, List.set_cons_succ, i64_w, i32_w]
              rfl
             refine pure_ (i := 33) (N := some 58) (v := undef) (a' := ?_) #[true, true, true, true, true, true, true, true, true, true, true, true, true, true, true, true, true, true, true, true, true, true, true, true, true, true, true, true, true, true, true, true, true, true, false, false] rfl rfl (any_of HT_.out t1_) (fun _ _ _ h => h) (Or.inr ⟨by rfl, rfl⟩) ?_ ?_
             rotate_left
             ·
              simp only [Act.put, List.setIfInBounds_toArray, List.set_cons_zero, List.set_cons_succ, i64_w, i32_w]
              rfl
             refine pure_ (i := 34) (N := some 59) (v := undef) (a' := ?_) #[true, true, true, true, true, true, true, true, true, true, true, true, true, true, true, true, true, true, true, true, true, true, true, true, true, true, true, true, true, true, true, true, true, true, true, false] rfl rfl (any_of HT_.out t1_) (fun _ _ _ h => h) (Or.inr ⟨by rfl, rfl⟩) ?_ ?_
             rotate_left
             ·
              simp only [Act.put, List.setIfInBounds_toArray, List.set_cons_zero, List.set_cons_succ, i64_w, i32_w]
              rfl
             refine pure_ (i := 35) (N := some 60) (v := ?_) (a' := ?_) #[true, true, true, true, true, true, true, true, true, true, true, true, true, true, true, true, true, true, true, true, true, true, true, true, true, true, true, true, true, true, true, true, true, true, true, true] rfl rfl (any_of HT_.out t1_) (fun _ _ _ h => h) (Or.inl ⟨by rfl, ?_⟩) ?_ ?_
             rotate_left
             ·
              intro w'
              go_simp
              with_reducible rfl
             rotate_left
             ·
              simp only [Act.put, List.setIfInBounds_toArray, List.set_cons_zero, List.set_cons_succ, i64_w, i32_w]
              rfl
             refine done_ (done_of HT_.out t1_) ?_
             try go_wp2
             (try simp only [← hl3_2])
             go_roundg k2
             case measure => have := HK1.out; have := HK2.out; omega
             case rel => exact ⟨(x3_2), (wrap64 (x21_2 + 1)), t2_, H', ⟨t41_⟩, ⟨t32_⟩, ⟨t30_⟩, ⟨L_ HB.out GE110.out GE110.out GE110.out⟩⟩
           ·
            rw [if_neg c16] at H
            exact absurd H t31_
          ·
           rw [if_neg c15] at H
           exact absurd H t31_
         ·
          rw [if_neg c14] at H; have c14b0 : decide (x21_2 < (t106.length : Int)) = false := decide_eq_false c14; clear c14; have H' := a_ H; clear H
          go_wp2
          (try simp only [← hl3_2])
          go_roundg k2
          case measure => have := HK1.out; have := HK2.out; omega
          case rel => exact ⟨(x3_2), (wrap64 (x4_1 + 1)), t2_, H', ⟨t41_⟩, ⟨t32_⟩, ⟨L_ HB.out (Nat.le_refl _) (Nat.le_refl _) (Nat.le_refl _)⟩⟩
      ·
       rw [if_neg c7] at H
       exact absurd H t31_
     ·
      rw [if_neg c6] at H
      exact absurd H t31_
    ·
     rw [if_neg c5] at H; have c5b0 : decide (x4_1 ≤ 1001) = false := decide_eq_false c5; clear c5
     by_cases c81 : a0 = true
     ·
      subst c81; have H1 : (if 1002 ≤ 35184372088832 then ((some (List.replicate 1002 0 : List Int)).bind fun y124 => (fewP.l2 k1 x3_1 y124 (y124.length : Int) 0)) else (none)) = some r := by rw [if_pos rfl] at H; exact H
      clear H
      go_upto_if 74 with fail
      rename_i K_ hK_
      refine c74 _ _ _ _ _ _ _ _ _ _ _ _ _ _ _ _ _ _ _ _ _ _ _ _ _ _ _ _ _ _ _ _ _ _ _ _ _ _ _ _ _ _ _ _ _ _ _ _ _ _ _ _ _ _ _ _ _ _ _ _ _ _ _ _ _ _ _ _ _ _ _ _ _ _ _ _ _ _ _ _ _ _ _ _ _ _ _ _ _ _ _ _ _ _ _ _ _ _ _ _ _ _ _ _ _ _ _ _ _ _ _ _ _ _ _ _ _ _ _ _ _ _ _ _ _ _ _ _ _ _ _ _ _ _ _ _ _ trivial ?_
      intro z2 z75
      change K_ _ _
      refine hK_ _ _ ?_
      exact few2 r x3_1 k1 v103 w _ _ _ _ _ _ _ _ _ _ _ _ _ _ _ _ _ _ _ _ _ _ _ _ _ _ _ _ _ _ _ _ _ _ _ _ _ _ _ _ _ _ _ _ _ _ _ _ _ _ _ _ _ _ _ _ _ _ _ _ _ _ _ _ _ _ _ _ _ _ _ _ _ _ _ _ _ _ _ _ _ _ _ _ _ _ _ _ _ _ _ _ _ _ _ _ _ _ _ _ _ _ _ _ _ _ _ _ _ _ _ _ _ _ _ _ _ _ _ _ _ _ _ _ _ _ _ _ _ _ _ _ _ _ _ (R_ HO_3.out) (L_ HB.out (Nat.le_refl _) (Nat.le_refl _) (Nat.le_refl _)) H1
     ·
      replace c81 := Bool.eq_false_iff.mpr c81; subst c81; have H1 : (some x3_1) = some r := by rw [if_neg (show ¬ (false = true) by decide)] at H; exact H
      clear H; have H := H1; clear H1; obtain rfl := Option.some.inj H
      go_wp2
      go_ret
      exact ⟨_, by first | rfl | (simp [errW_none, errW_some] <;> rfl) | (simp [*, errW_none, errW_some] <;> rfl), by (with_reducible repeat (first | apply Kd.R_alloc | apply Kd.R_drewN | apply Kd.R_drew)); exact HO_3.out, by repeat (first | (with_reducible first | exact HB.out | apply below_alloc | apply pw_below_drewN | apply below_drew1) | exact HB.out)⟩
 ·
  rw [if_neg c2] at H
  exact absurd H t31_
end Go.Proofs.Ytacmfgbeaoalfaa.QFnDartsFinish
