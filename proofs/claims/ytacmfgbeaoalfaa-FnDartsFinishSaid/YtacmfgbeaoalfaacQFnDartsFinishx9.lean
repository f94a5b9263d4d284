/- Functions of this law, printed out of the translation: what each computes, and that its code answers so. No condition. -/
import Derived.Test.YtacmfgbeaoalfaacQFnDartsFinishx0
import Derived.Test.YtacmfgbeaoalfaacQFnDartsFinishx1
import Derived.Test.YtacmfgbeaoalfaacQFnDartsFinishx3
import Derived.Test.YtacmfgbeaoalfaacQFnDartsFinishx5
import Derived.Test.YtacmfgbeaoalfaacGQ
namespace Go.Proofs.Ytacmfgbeaoalfaa.QFnDartsFinish
open Go.RowKit Go.Proofs.YtacmfgbeaoalfaaW.PrintWords Go.Proofs.YtacmfgbeaoalfaaW.PrintLast Go.Proofs.YtacmfgbeaoalfaaW.PrintMore Go.Proofs.Ytacmfgbeaoalfaa.Sh
attribute [local go_sem] max2_int min2_int max_two min_two max_three min_three max_four min_four
set_option linter.unusedVariables false
set_option linter.unusedSimpArgs false
attribute [local go_sem high] eqA43
mutual
def spec_NoFinishes.j0 : Nat → Int → Int → Bool → Option (List Int × Bool)
 | 0, _, _, _ => none
 | k + 1, x0, x1, x19 => if x19 = true then (some (([] : List Int), false)) else (if 1002 ≤ 281474976710656 then (spec_NoFinishes.l0 k x0 x1 (List.replicate 1002 false) 1) else (none))
def spec_NoFinishes.l0 : Nat → Int → Int → List Bool → Int → Option (List Int × Bool)
 | 0, _, _, _, _ => none
 | k + 1, x0, x1, x6, x7 => if x7 ≤ x1 then ((spec_daCount.f k x7 x0 true).bind fun t315 => (spec_NoFinishes.l1 k x0 x1 x6 x7 t315 (t315.length : Int) 0)) else (spec_NoFinishes.l2 k x0 x6 ([] : List Int) 2)
def spec_NoFinishes.l1 : Nat → Int → Int → List Bool → Int → List Int → Int → Int → Option (List Int × Bool)
 | 0, _, _, _, _, _, _, _ => none
 | k + 1, x0, x1, x6, x7, x28, x29, x30 => if x30 < x29 then (if 0 ≤ x30 then (if x30 < (x28.length : Int) then (if x30 < (x6.length : Int) then (if rdOf false x6 x30 = true then (spec_NoFinishes.l1 k x0 x1 (x6.set (x30 : Int).toNat true) x7 x28 x29 (wrap64 (x30 + 1))) else (spec_NoFinishes.l1 k x0 x1 (x6.set (x30 : Int).toNat (decide ((rd x28 x30) > 0))) x7 x28 x29 (wrap64 (x30 + 1)))) else (none)) else (none)) else (none)) else (spec_NoFinishes.l0 k x0 x1 x6 (wrap64 (x7 + 1)))
def spec_NoFinishes.l2 : Nat → Int → List Bool → List Int → Int → Option (List Int × Bool)
 | 0, _, _, _, _ => none
 | k + 1, x0, x6, x10, x11 => if x11 ≤ x0 then (if 0 ≤ x11 then (if x11 < (x6.length : Int) then (if rdOf false x6 x11 = true then (spec_NoFinishes.l2 k x0 x6 x10 (wrap64 (x11 + 1))) else (if x10.length < 17592186044416 then (spec_NoFinishes.l2 k x0 x6 (x10 ++ [x11]) (wrap64 (x11 + 1))) else (none))) else (none)) else (none)) else (some (x10, true))
end
def spec_NoFinishes.f (k : Nat) (a0 : Int) (a1 : Int) : Option (List Int × Bool) := (spec_daLeft.f a0).bind fun t310 => (if t310 = true then ((spec_daDarts.f a1).bind fun t311 => (spec_NoFinishes.j0 k a0 a1 (!t311))) else (spec_NoFinishes.j0 k a0 a1 true))
set_option maxHeartbeats 8000000 in
set_option maxRecDepth 100000 in
theorem spec_NoFinishes.calls (k : Nat) (a0 : Int) (a1 : Int) (r1 : List Int) (r2 : Bool) (w : World) (h : spec_NoFinishes.f k a0 a1 = some (r1, r2)) :
  Calls Try.prog 17 #[.int .i64 a0, .int .i64 a1] w fun e w' => ∃ v0_ : Value, e = .returned (.tuple #[v0_, .bool r2]) ∧ Kd.R (Kd.int .i64) 3 w' w.heap.size (fun _ => True) v0_ r1 ∧ Below w.heap.size w w' := by
 have HB := a_ (Below.refl w.heap.size w); have H : ((spec_daLeft.f a0).bind fun t310 => (if t310 = true then ((spec_daDarts.f a1).bind fun t311 => (spec_NoFinishes.j0 k a0 a1 (!t311))) else (spec_NoFinishes.j0 k a0 a1 true))) = some (r1, r2) := h; clear h; have HC3 := a_ H; clear H
 go_enter Try.func17, Try.ntmps17
 go_upto_region 1 with (fail)
 go_cut [19] (fun v19 wc => ∃ (kq : Nat) (x19_2 : Bool), v19 = .bool x19_2 ∧ Aside0 (spec_NoFinishes.j0 kq a0 a1 x19_2 = some (r1, r2)) ∧ Aside0 (kq ≤ k) ∧ Aside0 (Below w.heap.size w wc))
 case first =>
  have H := HC3.out; clear HC3; replace H := Option.bind_eq_some_iff.mp H; obtain ⟨t310, A40, H⟩ := H; replace H : (if t310 = true then ((spec_daDarts.f a1).bind fun t311 => (spec_NoFinishes.j0 k a0 a1 (!t311))) else (spec_NoFinishes.j0 k a0 a1 true)) = some (r1, r2) := H; have A4 := a_ A40; clear A40
  by_cases c5 : t310 = true
  ·
   subst c5; have H1 : ((spec_daDarts.f a1).bind fun t311 => (spec_NoFinishes.j0 k a0 a1 (!t311))) = some (r1, r2) := by rw [if_pos rfl] at H; exact H
   clear H; have H := H1; clear H1; replace H := Option.bind_eq_some_iff.mp H; obtain ⟨t311, A60, H⟩ := H; replace H : (spec_NoFinishes.j0 k a0 a1 (!t311)) = some (r1, r2) := H; have A6 := a_ A60; clear A60; have H' := a_ H; clear H
   go_wp2_with (first | ((with_reducible refine gate_callee (f := 37) rfl ?_); refine goesL_ (some 13) rfl rfl Try.func37 t1_ rfl #[.int .i64 a0] rfl (by (try simp only [m1_, m2_, m3_]); first | done | rfl) ?_; (with_reducible refine (spec_daLeft.calls a0 true _ A4.out).mono ?_); rintro e w' ⟨rfl, ⟨nd, rfl⟩⟩; refine ⟨_, rfl, ?_⟩) | (go_at_call 38; (with_reducible refine (spec_daDarts.calls a1 t311 _ A6.out).mono ?_); rintro e w' ⟨rfl, ⟨nd, rfl⟩⟩))
   go_meet
   case rel => exact ⟨_, (!t311), t2_, H', ⟨t38_⟩, ⟨L_ HB.out (Nat.le_refl _) (Nat.le_refl _) (Nat.le_refl _)⟩⟩
  ·
   replace c5 := Bool.eq_false_iff.mpr c5; subst c5; have H1 : (spec_NoFinishes.j0 k a0 a1 true) = some (r1, r2) := by rw [if_neg (show ¬ (false = true) by decide)] at H; exact H
   clear H; have H := H1; clear H1; have H' := a_ H; clear H
   go_wp2_with (first | ((with_reducible refine gate_callee (f := 37) rfl ?_); refine goesL_ (some 13) rfl rfl Try.func37 t1_ rfl #[.int .i64 a0] rfl (by (try simp only [m1_, m2_, m3_]); first | done | rfl) ?_; (with_reducible refine (spec_daLeft.calls a0 false _ A4.out).mono ?_); rintro e w' ⟨rfl, ⟨nd, rfl⟩⟩; refine ⟨_, rfl, ?_⟩))
   go_meet
   case rel => exact ⟨_, (true), t2_, H', ⟨t38_⟩, ⟨L_ HB.out (Nat.le_refl _) (Nat.le_refl _) (Nat.le_refl _)⟩⟩
 case rest =>
  clear HC3; obtain ⟨kq, x19_2, rfl, HA, HJ2, HB⟩ := hcut
  cases kq with
  | zero => exact absurd HA.out (by simp [spec_NoFinishes.j0])
  | succ kj2 =>
   have H := HA.out; clear HA; simp only [spec_NoFinishes.j0] at H
   by_cases c7 : x19_2 = true
   ·
    subst c7; have H1 : (some (([] : List Int), false)) = some (r1, r2) := by rw [if_pos rfl] at H; exact H
    clear H; have H := H1; clear H1; simp only [Option.some.injEq, Prod.mk.injEq] at H; obtain ⟨rfl, rfl⟩ := H
    go_wp2
    go_ret2
    exact ⟨_, by first | rfl | (simp [errW_none, errW_some] <;> rfl) | (simp [*, errW_none, errW_some] <;> rfl), by first | exact Kd.R_nil _ _ _ _ _ | exact Kd.N_nil _ _ _ _ _ | exact Kd.V_nil _ _ _ _ _ | exact Kd.Q_nil _ _ _ _ _ | exact Kd.S_nil _ _ _ _ _, by repeat (first | (with_reducible first | exact HB.out | apply below_alloc | apply pw_below_drewN | apply below_drew1) | exact HB.out)⟩
   ·
    replace c7 := Bool.eq_false_iff.mpr c7; subst c7; have H1 : (if 1002 ≤ 281474976710656 then (spec_NoFinishes.l0 kj2 a0 a1 (List.replicate 1002 false) 1) else (none)) = some (r1, r2) := by rw [if_neg (show ¬ (false = true) by decide)] at H; exact H
    clear H; have H := H1; clear H1
    by_cases c8 : 1002 ≤ 281474976710656
    ·
     rw [if_pos c8] at H; have c8b0 := eq_true c8; have c8b1 : decide (1002 ≤ 281474976710656) = true := decide_eq_true c8; clear c8; obtain ⟨y312, hy312⟩ : ∃ y_ : List Bool, y_ = (List.replicate 1002 false) := ⟨_, rfl⟩; replace H : (spec_NoFinishes.l0 kj2 a0 a1 y312 1) = some (r1, r2) := by first | (rw [hy312]; with_reducible exact H) | (have H2_ := (Option.bind_some _ _).symm.trans H; rw [hy312]; with_reducible exact H2_) | (have H2_ := (Option.bind_some _ _).symm.trans H; with_reducible exact H2_) | with_reducible exact H | (rw [hy312]; exact H) | exact H
     have Ny312 := a_ hy312; clear hy312; have H' := a_ H; clear H
     go_wp2_with (first | ((with_reducible refine gate_dst (N := 20) rfl ?_); refine Kd.R_make Kd.bool _ 4 rfl (N := 20) rfl 58 _ _ rfl 1002 rfl rfl Try.underlying58 (.bool false) 1 info4 rfl t29_ t46_ false (ok := fun _ => True) (okp := fun _ => True) rfl (fun _ hk => hk) trivial t46_ t46_ (Below.refl _ _) (Nat.le_refl _) ?_; intro v313 w9 ho10 hb hg_ hnew_; clear hg_ hnew_; (first | rw [← Ny312.out] at ho10 | (simp only [Int.reduceToNat] at ho10; rw [← Ny312.out] at ho10)); have n0_ := a_ (Kd.R_lower ho10 (below_size (L_ HB.out (Nat.le_refl _) (Nat.le_refl _) (Nat.le_refl _)))); have n1_ := a_ (below_step (L_ HB.out (Nat.le_refl _) (Nat.le_refl _) (Nat.le_refl _)) hb); clear HB; have HO314 := n0_; have HB := n1_; clear n0_ n1_; clear hb ho10))
     go_loopg [7] kj2 (fun kq v7 w' => ∃ (x6_2 : List Bool) (x7_2 : Int), v7 = .int .i64 x7_2 ∧ Aside0 (spec_NoFinishes.l0 kq a0 a1 x6_2 x7_2 = some (r1, r2)) ∧ Aside0 (kq ≤ kj2) ∧ Aside0 (Kd.R Kd.bool 4 w' w.heap.size (fun _ => True) v313 x6_2) ∧ Aside0 (Below w.heap.size w w'))
     case atStart => exact ⟨(y312), (1), t2_, H', ⟨Nat.le_refl _⟩, ⟨R_ HO314.out⟩, ⟨L_ HB.out (Nat.le_refl _) (Nat.le_refl _) (Nat.le_refl _)⟩⟩
     case round =>
      clear H'; obtain ⟨x6_2, x7_2, rfl, HA, HK2, HO_6, HB⟩ := hrel
      cases gk with
      | zero => exact absurd HA.out (by simp [spec_NoFinishes.l0])
      | succ k2 =>
       have H := HA.out; clear HA; simp only [spec_NoFinishes.l0] at H
       by_cases c11 : x7_2 ≤ a1
       ·
        rw [if_pos c11] at H; have c11b0 : decide (x7_2 ≤ a1) = true := decide_eq_true c11; clear c11; replace H := Option.bind_eq_some_iff.mp H; obtain ⟨t315, A120, H⟩ := H; replace H : (spec_NoFinishes.l1 k2 a0 a1 x6_2 x7_2 t315 (t315.length : Int) 0) = some (r1, r2) := H; have A12 := a_ A120; clear A120; have H' := a_ H; clear H
        go_wp2_with (first | ((with_reducible refine gate_callee (f := 46) rfl ?_); refine goesL_ (some 28) rfl rfl Try.func46 t1_ rfl #[.int .i64 x7_2, .int .i64 a0, .bool true] rfl (by (try simp only [m1_, m2_, m3_]); first | done | rfl) ?_; (with_reducible refine (spec_daCount.calls k2 x7_2 a0 true t315 _ A12.out).mono ?_); rintro e w13 ⟨v316, rfl, ho0, hb⟩; refine ⟨_, rfl, ?_⟩; have n0_ := a_ (Kd.R_below (R_ HO_6.out) hb); have n1_ := a_ (Kd.R_lower ho0 (below_size (L_ HB.out (Nat.le_refl _) (Nat.le_refl _) (Nat.le_refl _)))); have n2_ := a_ (below_step (L_ HB.out (Nat.le_refl _) (Nat.le_refl _) (Nat.le_refl _)) hb); clear HO_6; clear HB; have HO_6 := n0_; have HO317 := n1_; have HB := n2_; clear n0_ n1_ n2_; (try clear hb); (try clear hb2); (try clear hk); (try clear hi); (try clear ho0); obtain ⟨Ao14, co14, eo14⟩ := Kd.R_slice HO317.out; subst eo14))
        go_loopg [30] k2 (fun kq v30 w' => ∃ (x6_3 : List Bool) (x30_3 : Int), v30 = .int .i64 x30_3 ∧ Aside0 (spec_NoFinishes.l1 kq a0 a1 x6_3 x7_2 t315 (t315.length : Int) x30_3 = some (r1, r2)) ∧ Aside0 (kq ≤ k2) ∧ Aside0 (Kd.R Kd.bool 4 w' w.heap.size (fun _ => True) v313 x6_3) ∧ Aside0 (Kd.R (Kd.int .i64) 3 w' w.heap.size (fun _ => True) (.slice Ao14 t315.length co14) t315) ∧ Aside0 (Below w.heap.size w w'))
        case atStart => exact ⟨(x6_2), (0), t2_, H', ⟨Nat.le_refl _⟩, ⟨R_ HO_6.out⟩, ⟨R_ HO317.out⟩, ⟨L_ HB.out (Nat.le_refl _) (Nat.le_refl _) (Nat.le_refl _)⟩⟩
        case round =>
         clear H'; obtain ⟨x6_3, x30_3, rfl, HA, HK3, HO_6, HO_28, HB⟩ := hrel
         cases gk with
         | zero => exact absurd HA.out (by simp [spec_NoFinishes.l1])
         | succ k3 =>
          have H := HA.out; clear HA; simp only [spec_NoFinishes.l1] at H
          by_cases c15 : x30_3 < (t315.length : Int)
          ·
           rw [if_pos c15] at H; have c15b0 : decide (x30_3 < (t315.length : Int)) = true := decide_eq_true c15; clear c15
           by_cases c16 : 0 ≤ x30_3
           ·
            rw [if_pos c16] at H; have c16b0 : decide (0 ≤ x30_3) = true := decide_eq_true c16; clear c16
            by_cases c17 : x30_3 < (t315.length : Int)
            ·
             rw [if_pos c17] at H; have c17b0 : decide (x30_3 < (t315.length : Int)) = true := decide_eq_true c17; clear c17
             by_cases c18 : x30_3 < (x6_3.length : Int)
             ·
              rw [if_pos c18] at H; have c18b0 : decide (x30_3 < (x6_3.length : Int)) = true := decide_eq_true c18; clear c18; obtain ⟨bq19, hbq19⟩ : ∃ b_ : Bool, b_ = (rdOf false x6_3 x30_3) := ⟨_, rfl⟩; replace H : (if bq19 = true then (spec_NoFinishes.l1 k3 a0 a1 (x6_3.set (x30_3 : Int).toNat true) x7_2 t315 (t315.length : Int) (wrap64 (x30_3 + 1))) else (spec_NoFinishes.l1 k3 a0 a1 (x6_3.set (x30_3 : Int).toNat (decide ((rd t315 x30_3) > 0))) x7_2 t315 (t315.length : Int) (wrap64 (x30_3 + 1)))) = some (r1, r2) := by rw [← hbq19] at H; exact H
              have Nbq19 := a_ hbq19; clear hbq19
              by_cases c20 : bq19 = true
              ·
               subst c20; have H1 : (spec_NoFinishes.l1 k3 a0 a1 (x6_3.set (x30_3 : Int).toNat true) x7_2 t315 (t315.length : Int) (wrap64 (x30_3 + 1))) = some (r1, r2) := by rw [if_pos rfl] at H; exact H
               clear H; have H := H1; clear H1; obtain ⟨y320, hy320⟩ : ∃ y_ : List Bool, y_ = (x6_3.set (x30_3 : Int).toNat true) := ⟨_, rfl⟩; replace H : (spec_NoFinishes.l1 k3 a0 a1 y320 x7_2 t315 (t315.length : Int) (wrap64 (x30_3 + 1))) = some (r1, r2) := by first | (rw [hy320]; with_reducible exact H) | (have H2_ := (Option.bind_some _ _).symm.trans H; rw [hy320]; with_reducible exact H2_) | (have H2_ := (Option.bind_some _ _).symm.trans H; with_reducible exact H2_) | with_reducible exact H | (rw [hy320]; exact H) | exact H
               have Ny320 := a_ hy320; clear hy320; have H' := a_ H; clear H; have p318 : 0 ≤ (x30_3 : Int) := of_decide_eq_true t0_; have q318 : x30_3 < (t315.length : Int) := of_decide_eq_true t0_; obtain ⟨ad318, e318, hx318_0⟩ := Kd.at_int (Kd.R_reads' HO_28.out).2.2 x30_3 p318 q318
               cases e318
               replace p318 := eq_true p318; replace q318 := eq_true q318; obtain ⟨Ao22, co22, eo22⟩ := Kd.R_slice HO_6.out; subst eo22; have p319 : 0 ≤ (x30_3 : Int) := of_decide_eq_true t0_; have q319 : x30_3 < (x6_3.length : Int) := of_decide_eq_true t0_; obtain ⟨ad319, e319, hx319_0⟩ := Kd.at_bool (Kd.R_reads' HO_6.out).2.2 x30_3 p319 q319
               (try rw [← Nbq19.out] at hx319_0)
               cases e319
               replace p319 := eq_true p319; replace q319 := eq_true q319; have p21 : 0 ≤ (x30_3 : Int) := of_decide_eq_true t0_; have q21 : (x30_3 : Int) < ((x6_3.length : Int) : Int) := of_decide_eq_true t0_; obtain ⟨go21, co21, eo21, gb21, gl21, cl21, HG21⟩ := Kd.R_form HO_6.out t46_
               (first | cases eo21 | (injection eo21 with ea_ en_ ec_; (first | subst ea_ | (injection ea_ with ea_; subst ea_)); subst ec_; clear en_))
               have GB21 := a_ gb21; have GG21 := a_ HG21; clear gb21 gl21 HG21
               (first | simp only [add_plain] at hx319_0 | skip)
               obtain ⟨hx21_0, hf21_0⟩ := Kd.R_celln false HO_6.out (x30_3 : Int) p21 q21; replace p21 := eq_true p21; replace q21 := eq_true q21; have HP23 := Kd.R_putg HO_6.out (x30_3 : Int) true
               go_wp2_with (first | ((with_reducible refine gate_store (t := 4) (p := 45) rfl ?_); refine store_event (t := 4) (p := 45) (v := ?vo_w24) (w1 := (wr.setCell ⟨go21, (x30_3 : Int).toNat, none⟩ (.bool true))) ?hg ?ho ?hn ?hr ?_; (case ho => rfl); (case hg => rfl); (case hn => rfl); (case hr => first | (go_simp; done) | (go_simp; rfl)); intro w24 hw; have hg : wr.grownBy w24 (some go21) := (by rw [hw]; exact HP23.2); have hp_ : Kd.R Kd.bool 4 w24 w.heap.size (fun _ => True) (.slice (some ⟨go21, 0, none⟩) x6_3.length co22) y320 := (by rw [hw, Ny320.out]; exact HP23.1); clear HP23; have n0_ := a_ (hp_); have n1_ := a_ (Kd.R_over' (v := (.slice (some ⟨go21, 0, none⟩) x6_3.length co22)) (R_ HO_28.out) (Kd.R_typed HO_6.out) t29_ hg); have n2_ := a_ ((by rw [hw]; exact below_set (HB.out) GB21.out : Below w.heap.size w w24)); clear HO_6; clear HO_28; clear HB; have HO_6 := n0_; have HO_28 := n1_; have HB := n2_; clear n0_ n1_ n2_; clear hg hw hp_))
               go_roundg k3
               case measure => have := HJ2.out; have := HK2.out; have := HK3.out; omega
               case rel => exact ⟨(y320), (wrap64 (x30_3 + 1)), t2_, H', ⟨t54_⟩, ⟨R_ HO_6.out⟩, ⟨R_ HO_28.out⟩, ⟨L_ HB.out (Nat.le_refl _) (Nat.le_refl _) (Nat.le_refl _)⟩⟩
              ·
               replace c20 := Bool.eq_false_iff.mpr c20; subst c20; have H1 : (spec_NoFinishes.l1 k3 a0 a1 (x6_3.set (x30_3 : Int).toNat (decide ((rd t315 x30_3) > 0))) x7_2 t315 (t315.length : Int) (wrap64 (x30_3 + 1))) = some (r1, r2) := by rw [if_neg (show ¬ (false = true) by decide)] at H; exact H
               clear H; have H := H1; clear H1; obtain ⟨y321, hy321⟩ : ∃ y_ : List Bool, y_ = (x6_3.set (x30_3 : Int).toNat (decide ((rd t315 x30_3) > 0))) := ⟨_, rfl⟩; replace H : (spec_NoFinishes.l1 k3 a0 a1 y321 x7_2 t315 (t315.length : Int) (wrap64 (x30_3 + 1))) = some (r1, r2) := by first | (rw [hy321]; with_reducible exact H) | (have H2_ := (Option.bind_some _ _).symm.trans H; rw [hy321]; with_reducible exact H2_) | (have H2_ := (Option.bind_some _ _).symm.trans H; with_reducible exact H2_) | with_reducible exact H | (rw [hy321]; exact H) | exact H
               have Ny321 := a_ hy321; clear hy321; have H' := a_ H; clear H; have p318 : 0 ≤ (x30_3 : Int) := of_decide_eq_true t0_; have q318 : x30_3 < (t315.length : Int) := of_decide_eq_true t0_; obtain ⟨ad318, e318, hx318_0⟩ := Kd.at_int (Kd.R_reads' HO_28.out).2.2 x30_3 p318 q318
               cases e318
               replace p318 := eq_true p318; replace q318 := eq_true q318; obtain ⟨Ao26, co26, eo26⟩ := Kd.R_slice HO_6.out; subst eo26; have p319 : 0 ≤ (x30_3 : Int) := of_decide_eq_true t0_; have q319 : x30_3 < (x6_3.length : Int) := of_decide_eq_true t0_; obtain ⟨ad319, e319, hx319_0⟩ := Kd.at_bool (Kd.R_reads' HO_6.out).2.2 x30_3 p319 q319
               (try rw [← Nbq19.out] at hx319_0)
               cases e319
               replace p319 := eq_true p319; replace q319 := eq_true q319; have p25 : 0 ≤ (x30_3 : Int) := of_decide_eq_true t0_; have q25 : (x30_3 : Int) < ((x6_3.length : Int) : Int) := of_decide_eq_true t0_; obtain ⟨go25, co25, eo25, gb25, gl25, cl25, HG25⟩ := Kd.R_form HO_6.out t46_
               (first | cases eo25 | (injection eo25 with ea_ en_ ec_; (first | subst ea_ | (injection ea_ with ea_; subst ea_)); subst ec_; clear en_))
               have GB25 := a_ gb25; have GG25 := a_ HG25; clear gb25 gl25 HG25
               (first | simp only [add_plain] at hx319_0 | skip)
               obtain ⟨hx25_0, hf25_0⟩ := Kd.R_celln false HO_6.out (x30_3 : Int) p25 q25; replace p25 := eq_true p25; replace q25 := eq_true q25; have HP27 := Kd.R_putg HO_6.out (x30_3 : Int) (decide ((rd t315 x30_3) > 0))
               go_wp2_with (first | ((with_reducible refine gate_store (t := 4) (p := 45) rfl ?_); refine store_event (t := 4) (p := 45) (v := ?vo_w28) (w1 := (wr.setCell ⟨go25, (x30_3 : Int).toNat, none⟩ (.bool (decide ((rd t315 x30_3) > 0))))) ?hg ?ho ?hn ?hr ?_; (case ho => rfl); (case hg => rfl); (case hn => rfl); (case hr => first | (go_simp; done) | (go_simp; rfl)); intro w28 hw; have hg : wr.grownBy w28 (some go25) := (by rw [hw]; exact HP27.2); have hp_ : Kd.R Kd.bool 4 w28 w.heap.size (fun _ => True) (.slice (some ⟨go25, 0, none⟩) x6_3.length co26) y321 := (by rw [hw, Ny321.out]; exact HP27.1); clear HP27; have n0_ := a_ (hp_); have n1_ := a_ (Kd.R_over' (v := (.slice (some ⟨go25, 0, none⟩) x6_3.length co26)) (R_ HO_28.out) (Kd.R_typed HO_6.out) t29_ hg); have n2_ := a_ ((by rw [hw]; exact below_set (HB.out) GB25.out : Below w.heap.size w w28)); clear HO_6; clear HO_28; clear HB; have HO_6 := n0_; have HO_28 := n1_; have HB := n2_; clear n0_ n1_ n2_; clear hg hw hp_))
               go_roundg k3
               case measure => have := HJ2.out; have := HK2.out; have := HK3.out; omega
               case rel => exact ⟨(y321), (wrap64 (x30_3 + 1)), t2_, H', ⟨t54_⟩, ⟨R_ HO_6.out⟩, ⟨R_ HO_28.out⟩, ⟨L_ HB.out (Nat.le_refl _) (Nat.le_refl _) (Nat.le_refl _)⟩⟩
             ·
              rw [if_neg c18] at H
              exact absurd H t31_
            ·
             rw [if_neg c17] at H
             exact absurd H t31_
           ·
            rw [if_neg c16] at H
            exact absurd H t31_
          ·
           rw [if_neg c15] at H; have c15b0 : decide (x30_3 < (t315.length : Int)) = false := decide_eq_false c15; clear c15; have H' := a_ H; clear H
           go_wp2
           go_roundg k3
           case measure => have := HJ2.out; have := HK2.out; have := HK3.out; omega
           case rel => exact ⟨(x6_3), (wrap64 (x7_2 + 1)), t2_, H', ⟨t54_⟩, ⟨R_ HO_6.out⟩, ⟨L_ HB.out (Nat.le_refl _) (Nat.le_refl _) (Nat.le_refl _)⟩⟩
       ·
        rw [if_neg c11] at H; have c11b0 : decide (x7_2 ≤ a1) = false := decide_eq_false c11; clear c11; have H' := a_ H; clear H
        go_wp2
        go_loopg [10, 11] k2 (fun kq v10 v11 w' => ∃ (x10_3 : List Int) (x11_3 : Int), v11 = .int .i64 x11_3 ∧ Aside0 (spec_NoFinishes.l2 kq a0 x6_2 x10_3 x11_3 = some (r1, r2)) ∧ Aside0 (kq ≤ k2) ∧ Aside0 (Kd.R Kd.bool 4 w' w.heap.size (fun _ => True) v313 x6_2) ∧ Aside0 (Kd.R (Kd.int .i64) 3 w' w.heap.size (fun _ => True) v10 x10_3) ∧ Aside0 (Below w.heap.size w w'))
        case atStart => exact ⟨(([] : List Int)), (2), t2_, H', ⟨Nat.le_refl _⟩, ⟨R_ HO_6.out⟩, ⟨t56_⟩, ⟨L_ HB.out (Nat.le_refl _) (Nat.le_refl _) (Nat.le_refl _)⟩⟩
        case round =>
         clear H'; obtain ⟨x10_3, x11_3, rfl, HA, HK3, HO_6, HO_10, HB⟩ := hrel
         cases gk with
         | zero => exact absurd HA.out (by simp [spec_NoFinishes.l2])
         | succ k3 =>
          have H := HA.out; clear HA; simp only [spec_NoFinishes.l2] at H
          by_cases c29 : x11_3 ≤ a0
          ·
           rw [if_pos c29] at H; have c29b0 : decide (x11_3 ≤ a0) = true := decide_eq_true c29; clear c29
           by_cases c30 : 0 ≤ x11_3
           ·
            rw [if_pos c30] at H; have c30b0 : decide (0 ≤ x11_3) = true := decide_eq_true c30; clear c30
            by_cases c31 : x11_3 < (x6_2.length : Int)
            ·
             rw [if_pos c31] at H; have c31b0 : decide (x11_3 < (x6_2.length : Int)) = true := decide_eq_true c31; clear c31; obtain ⟨bq32, hbq32⟩ : ∃ b_ : Bool, b_ = (rdOf false x6_2 x11_3) := ⟨_, rfl⟩; replace H : (if bq32 = true then (spec_NoFinishes.l2 k3 a0 x6_2 x10_3 (wrap64 (x11_3 + 1))) else (if x10_3.length < 17592186044416 then (spec_NoFinishes.l2 k3 a0 x6_2 (x10_3 ++ [x11_3]) (wrap64 (x11_3 + 1))) else (none))) = some (r1, r2) := by rw [← hbq32] at H; exact H
             have Nbq32 := a_ hbq32; clear hbq32
             by_cases c33 : bq32 = true
             ·
              subst c33; have H1 : (spec_NoFinishes.l2 k3 a0 x6_2 x10_3 (wrap64 (x11_3 + 1))) = some (r1, r2) := by rw [if_pos rfl] at H; exact H
              clear H; have H := H1; clear H1; have H' := a_ H; clear H; obtain ⟨Ao34, co34, eo34⟩ := Kd.R_slice HO_6.out; subst eo34; have p322 : 0 ≤ (x11_3 : Int) := of_decide_eq_true t0_; have q322 : x11_3 < (x6_2.length : Int) := of_decide_eq_true t0_; obtain ⟨ad322, e322, hx322_0⟩ := Kd.at_bool (Kd.R_reads' HO_6.out).2.2 x11_3 p322 q322
              (try rw [← Nbq32.out] at hx322_0)
              cases e322
              replace p322 := eq_true p322; replace q322 := eq_true q322
              go_wp2
              go_roundg k3
              case measure => have := HJ2.out; have := HK2.out; have := HK3.out; omega
              case rel => exact ⟨(x10_3), (wrap64 (x11_3 + 1)), t2_, H', ⟨t54_⟩, ⟨R_ HO_6.out⟩, ⟨R_ HO_10.out⟩, ⟨L_ HB.out (Nat.le_refl _) (Nat.le_refl _) (Nat.le_refl _)⟩⟩
             ·
              replace c33 := Bool.eq_false_iff.mpr c33; subst c33; have H1 : (if x10_3.length < 17592186044416 then (spec_NoFinishes.l2 k3 a0 x6_2 (x10_3 ++ [x11_3]) (wrap64 (x11_3 + 1))) else (none)) = some (r1, r2) := by rw [if_neg (show ¬ (false = true) by decide)] at H; exact H
              clear H; have H := H1; clear H1
              by_cases c35 : x10_3.length < 17592186044416
              ·
               rw [if_pos c35] at H; have LMc35 := a_ c35; clear c35; obtain ⟨y323, hy323⟩ : ∃ y_ : List Int, y_ = (x10_3 ++ [x11_3]) := ⟨_, rfl⟩; replace H : (spec_NoFinishes.l2 k3 a0 x6_2 y323 (wrap64 (x11_3 + 1))) = some (r1, r2) := by first | (rw [hy323]; with_reducible exact H) | (have H2_ := (Option.bind_some _ _).symm.trans H; rw [hy323]; with_reducible exact H2_) | (have H2_ := (Option.bind_some _ _).symm.trans H; with_reducible exact H2_) | with_reducible exact H | (rw [hy323]; exact H) | exact H
               have Ny323 := a_ hy323; clear hy323; have H' := a_ H; clear H; obtain ⟨Ao36, co36, eo36⟩ := Kd.R_slice HO_6.out; subst eo36; have p322 : 0 ≤ (x11_3 : Int) := of_decide_eq_true t0_; have q322 : x11_3 < (x6_2.length : Int) := of_decide_eq_true t0_; obtain ⟨ad322, e322, hx322_0⟩ := Kd.at_bool (Kd.R_reads' HO_6.out).2.2 x11_3 p322 q322
               (try rw [← Nbq32.out] at hx322_0)
               cases e322
               replace p322 := eq_true p322; replace q322 := eq_true q322
               go_wp2_with (first | ((with_reducible refine gate_builtin (b := .append) (xs := #[.tmp 57, .tmp 59]) rfl ?_); at_builtin; refine Kd.R_append (Kd.int .i64) (w0 := w) w.heap.size rfl (.tmp 57) (.tmp 59) 33 3 (.int .i64 0) 8 rfl Try.underlying33 info3 rfl t29_ t46_ u10 x10_3 x11_3 [.int .i64 x11_3] (fun _ => True) (fun _ => False) rfl rfl ?aP (fun _ hk => hk.elim) ?aF ?aO ?aB ?aS ?aL ?_; (case aP => exact rfl); (case aB => exact (L_ HB.out (Nat.le_refl _) (Nat.le_refl _) (Nat.le_refl _))); (case aF => exact (fun _ _ => trivial)); (case aO => exact (R_ HO_10.out)); (case aS => exact (below_size (L_ HB.out (Nat.le_refl _) (Nat.le_refl _) (Nat.le_refl _)))); (case aL => have := LMc35.out; omega); intro v324 w37 ho hb hg hat; rw [← Ny323.out] at ho; have n0_ := a_ (Kd.R_over' (R_ HO_6.out) (Kd.R_typed (R_ HO_10.out)) t29_ hg); have n1_ := a_ (hb); have n2_ := a_ (ho); clear HO_6; clear HB; clear HO_10; have HO_6 := n0_; have HB := n1_; have HO325 := n2_; clear n0_ n1_ n2_; clear ho hb hg hat))
               go_roundg k3
               case measure => have := HJ2.out; have := HK2.out; have := HK3.out; omega
               case rel => exact ⟨(y323), (wrap64 (x11_3 + 1)), t2_, H', ⟨t54_⟩, ⟨R_ HO_6.out⟩, ⟨R_ HO325.out⟩, ⟨L_ HB.out (Nat.le_refl _) (Nat.le_refl _) (Nat.le_refl _)⟩⟩
              ·
               rw [if_neg c35] at H
               exact absurd H t31_
            ·
             rw [if_neg c31] at H
             exact absurd H t31_
           ·
            rw [if_neg c30] at H
            exact absurd H t31_
          ·
           rw [if_neg c29] at H; have c29b0 : decide (x11_3 ≤ a0) = false := decide_eq_false c29; clear c29; simp only [Option.some.injEq, Prod.mk.injEq] at H; obtain ⟨rfl, rfl⟩ := H
           go_wp2
           go_ret2
           exact ⟨_, by first | rfl | (simp [errW_none, errW_some] <;> rfl) | (simp [*, errW_none, errW_some] <;> rfl), by (with_reducible repeat (first | apply Kd.R_alloc | apply Kd.R_drewN | apply Kd.R_drew)); exact HO_10.out, by repeat (first | (with_reducible first | exact HB.out | apply below_alloc | apply pw_below_drewN | apply below_drew1) | exact HB.out)⟩
    ·
     rw [if_neg c8] at H
     exact absurd H t31_
def laws_bDarts.l0 : Nat → List (S43) → List (S43) → Int → Int → Option (Bool)
 | 0, _, _, _, _ => none
 | k + 1, x0, x1, x12, x13 => if x13 < x12 then (if 0 ≤ x13 then (if x13 < (x0.length : Int) then (if x13 < (x1.length : Int) then (if (!(((rd_T43 x0 x13).f0) == ((rd_T43 x1 x13).f0)) || (!(((rd_T43 x0 x13).f1) == ((rd_T43 x1 x13).f1)))) = true then (some false) else (laws_bDarts.l0 k x0 x1 x12 (wrap64 (x13 + 1)))) else (none)) else (none)) else (none)) else (some true)
def laws_bDarts.f (k : Nat) (l0 : List (S43)) (l1 : List (S43)) : Option (Bool) := if (l0.length : Int) = (l1.length : Int) then (laws_bDarts.l0 k l0 l1 (l0.length : Int) 0) else (some false)
set_option maxHeartbeats 8000000 in
set_option maxRecDepth 100000 in
theorem laws_bDarts.calls (k : Nat) (A0 : Option Addr) (c0 : Nat) (l0 : List (S43)) (A1 : Option Addr) (c1 : Nat) (l1 : List (S43)) (r : Bool) (w : World) (hr0 : Kd.C k43 w A0 l0.length l0) (hc0 : l0.length ≤ c0) (hr1 : Kd.C k43 w A1 l1.length l1) (hc1 : l1.length ≤ c1) (h : laws_bDarts.f k l0 l1 = some r) :
  Calls Try.prog 18 #[.slice A0 l0.length c0, .slice A1 l1.length c1] w fun e w' => e = .returned (.bool r) ∧ Drawn0 w w' := by
 have hu43 := Try.underlying43; have HR0 := a_ hr0; have HC0 := a_ hc0; clear hr0 hc0; have HR1 := a_ hr1; have HC1 := a_ hc1; clear hr1 hc1; have H : (if (l0.length : Int) = (l1.length : Int) then (laws_bDarts.l0 k l0 l1 (l0.length : Int) 0) else (some false)) = some r := h; clear h
 by_cases c3 : (l0.length : Int) = (l1.length : Int)
 ·
  rw [if_pos c3] at H; have c3b0 : ((l0.length : Int) == (l1.length : Int)) = true := beq_iff_eq.mpr c3; have c3b1 : ((l0.length : Int) != (l1.length : Int)) = false := bne_eq_false_iff_eq.mpr c3; have c3b2 : (l0.length == l1.length) = true := by first | simpa using c3 | (simp at c3 ⊢; omega)
  clear c3; have H' := a_ H; clear H
  go_enter Try.func18, Try.ntmps18
  go_wp2
  repeat (go_quiet (fail); try go_wp2)
  go_loopg [13] k (fun kq v13 w' => ∃ (x13_1 : Int), v13 = .int .i64 x13_1 ∧ Aside0 (laws_bDarts.l0 kq l0 l1 (l0.length : Int) x13_1 = some r) ∧ Aside0 (kq ≤ k) ∧ Drawn0 w w')
  case atStart => exact ⟨(0), t2_, H', ⟨Nat.le_refl _⟩, by repeat (first | exact Drawn0.refl _ | apply Drawn0.step)⟩
  case round =>
   clear H'; obtain ⟨x13_1, rfl, HA, HK1, ⟨m1, rfl⟩⟩ := hrel
   cases gk with
   | zero => exact absurd HA.out (by simp [laws_bDarts.l0])
   | succ k1 =>
    have H := HA.out; clear HA; simp only [laws_bDarts.l0] at H
    by_cases c4 : x13_1 < (l0.length : Int)
    ·
     rw [if_pos c4] at H; have c4b0 : decide (x13_1 < (l0.length : Int)) = true := decide_eq_true c4; clear c4
     by_cases c5 : 0 ≤ x13_1
     ·
      rw [if_pos c5] at H; have c5b0 : decide (0 ≤ x13_1) = true := decide_eq_true c5; clear c5
      by_cases c6 : x13_1 < (l0.length : Int)
      ·
       rw [if_pos c6] at H; have c6b0 : decide (x13_1 < (l0.length : Int)) = true := decide_eq_true c6; clear c6
       by_cases c7 : x13_1 < (l1.length : Int)
       ·
        rw [if_pos c7] at H; have c7b0 : decide (x13_1 < (l1.length : Int)) = true := decide_eq_true c7; clear c7
        by_cases c8 : (!(((rd_T43 l0 x13_1).f0) == ((rd_T43 l1 x13_1).f0)) || (!(((rd_T43 l0 x13_1).f1) == ((rd_T43 l1 x13_1).f1)))) = true
        ·
         rw [if_pos c8] at H; have c8b0 : (!(((rd_T43 l0 x13_1).f0) == ((rd_T43 l1 x13_1).f0)) || (!(((rd_T43 l0 x13_1).f1) == ((rd_T43 l1 x13_1).f1)))) = true := c8; clear c8; obtain rfl := Option.some.inj H; have p326 : 0 ≤ (x13_1 : Int) := of_decide_eq_true t0_; have q326 : x13_1 < (l0.length : Int) := of_decide_eq_true t0_; obtain ⟨ad326, e326, hx326_0, hx326_1⟩ := at_T43 HR0.out x13_1 p326 q326
         cases e326
         replace p326 := eq_true p326; replace q326 := eq_true q326; have p327 : 0 ≤ (x13_1 : Int) := of_decide_eq_true t0_; have q327 : x13_1 < (l1.length : Int) := of_decide_eq_true t0_; obtain ⟨ad327, e327, hx327_0, hx327_1⟩ := at_T43 HR1.out x13_1 p327 q327
         cases e327
         replace p327 := eq_true p327; replace q327 := eq_true q327
         go_wp2
         repeat (go_quiet (fail); try go_wp2)
         go_ret
         exact ⟨by first | rfl | (simp; done) | (simp [*]; done), by repeat (first | exact Drawn0.refl _ | apply Drawn0.step)⟩
        ·
         rw [if_neg c8] at H; have c8b0 : (!(((rd_T43 l0 x13_1).f0) == ((rd_T43 l1 x13_1).f0)) || (!(((rd_T43 l0 x13_1).f1) == ((rd_T43 l1 x13_1).f1)))) = false := by simpa using c8
         clear c8; have H' := a_ H; clear H; have p326 : 0 ≤ (x13_1 : Int) := of_decide_eq_true t0_; have q326 : x13_1 < (l0.length : Int) := of_decide_eq_true t0_; obtain ⟨ad326, e326, hx326_0, hx326_1⟩ := at_T43 HR0.out x13_1 p326 q326
         cases e326
         replace p326 := eq_true p326; replace q326 := eq_true q326; have p327 : 0 ≤ (x13_1 : Int) := of_decide_eq_true t0_; have q327 : x13_1 < (l1.length : Int) := of_decide_eq_true t0_; obtain ⟨ad327, e327, hx327_0, hx327_1⟩ := at_T43 HR1.out x13_1 p327 q327
         cases e327
         replace p327 := eq_true p327; replace q327 := eq_true q327
         go_wp2
         repeat (go_quiet (fail); try go_wp2)
         go_roundg k1
         case measure => have := HK1.out; omega
         case rel => exact ⟨(wrap64 (x13_1 + 1)), t2_, H', ⟨t52_⟩, by repeat (first | exact Drawn0.refl _ | apply Drawn0.step)⟩
       ·
        rw [if_neg c7] at H
        exact absurd H t31_
      ·
       rw [if_neg c6] at H
       exact absurd H t31_
     ·
      rw [if_neg c5] at H
      exact absurd H t31_
    ·
     rw [if_neg c4] at H; have c4b0 : decide (x13_1 < (l0.length : Int)) = false := decide_eq_false c4; clear c4; obtain rfl := Option.some.inj H
     go_wp2
     repeat (go_quiet (fail); try go_wp2)
     go_ret
     exact ⟨by first | rfl | (simp; done) | (simp [*]; done), by repeat (first | exact Drawn0.refl _ | apply Drawn0.step)⟩
 ·
  rw [if_neg c3] at H; have c3b0 : ((l0.length : Int) == (l1.length : Int)) = false := beq_eq_false_iff_ne.mpr c3; have c3b1 : ((l0.length : Int) != (l1.length : Int)) = true := bne_iff_ne.mpr c3; have c3b2 : (l0.length == l1.length) = false := by first | simpa using c3 | (simp at c3 ⊢; omega)
  obtain rfl := Option.some.inj H
  go_enter Try.func18, Try.ntmps18
  go_wp2
  repeat (go_quiet (fail); try go_wp2)
  go_ret
  exact ⟨by first | rfl | (simp; done) | (simp [*]; done), by repeat (first | exact Drawn0.refl _ | apply Drawn0.step)⟩
def laws_bSame.l0 : Nat → List Int → List Int → Int → Int → Option (Bool)
 | 0, _, _, _, _ => none
 | k + 1, x0, x1, x12, x13 => if x13 < x12 then (if 0 ≤ x13 then (if x13 < (x0.length : Int) then (if x13 < (x1.length : Int) then (if (rd x0 x13) = (rd x1 x13) then (laws_bSame.l0 k x0 x1 x12 (wrap64 (x13 + 1))) else (some false)) else (none)) else (none)) else (none)) else (some true)
def laws_bSame.f (k : Nat) (l0 : List Int) (l1 : List Int) : Option (Bool) := if (l0.length : Int) = (l1.length : Int) then (laws_bSame.l0 k l0 l1 (l0.length : Int) 0) else (some false)
set_option maxHeartbeats 8000000 in
set_option maxRecDepth 100000 in
theorem laws_bSame.calls (k : Nat) (A0 : Option Addr) (c0 : Nat) (l0 : List Int) (A1 : Option Addr) (c1 : Nat) (l1 : List Int) (r : Bool) (w : World) (hr0 : Kd.C (Kd.int .i64) w A0 l0.length l0) (hc0 : l0.length ≤ c0) (hr1 : Kd.C (Kd.int .i64) w A1 l1.length l1) (hc1 : l1.length ≤ c1) (h : laws_bSame.f k l0 l1 = some r) :
  Calls Try.prog 19 #[.slice A0 l0.length c0, .slice A1 l1.length c1] w fun e w' => e = .returned (.bool r) ∧ Drawn0 w w' := by
 have HR0 := a_ hr0; have HC0 := a_ hc0; clear hr0 hc0; have HR1 := a_ hr1; have HC1 := a_ hc1; clear hr1 hc1; have H : (if (l0.length : Int) = (l1.length : Int) then (laws_bSame.l0 k l0 l1 (l0.length : Int) 0) else (some false)) = some r := h; clear h
 by_cases c3 : (l0.length : Int) = (l1.length : Int)
 ·
  rw [if_pos c3] at H; have c3b0 : ((l0.length : Int) == (l1.length : Int)) = true := beq_iff_eq.mpr c3; have c3b1 : ((l0.length : Int) != (l1.length : Int)) = false := bne_eq_false_iff_eq.mpr c3; have c3b2 : (l0.length == l1.length) = true := by first | simpa using c3 | (simp at c3 ⊢; omega)
  clear c3; have H' := a_ H; clear H
  go_enter Try.func19, Try.ntmps19
  go_wp2
  repeat (go_quiet (fail); try go_wp2)
  go_loopg [13] k (fun kq v13 w' => ∃ (x13_1 : Int), v13 = .int .i64 x13_1 ∧ Aside0 (laws_bSame.l0 kq l0 l1 (l0.length : Int) x13_1 = some r) ∧ Aside0 (kq ≤ k) ∧ Drawn0 w w')
  case atStart => exact ⟨(0), t2_, H', ⟨Nat.le_refl _⟩, by repeat (first | exact Drawn0.refl _ | apply Drawn0.step)⟩
  case round =>
   clear H'; obtain ⟨x13_1, rfl, HA, HK1, ⟨m1, rfl⟩⟩ := hrel
   cases gk with
   | zero => exact absurd HA.out (by simp [laws_bSame.l0])
   | succ k1 =>
    have H := HA.out; clear HA; simp only [laws_bSame.l0] at H
    by_cases c4 : x13_1 < (l0.length : Int)
    ·
     rw [if_pos c4] at H; have c4b0 : decide (x13_1 < (l0.length : Int)) = true := decide_eq_true c4; clear c4
     by_cases c5 : 0 ≤ x13_1
     ·
      rw [if_pos c5] at H; have c5b0 : decide (0 ≤ x13_1) = true := decide_eq_true c5; clear c5
      by_cases c6 : x13_1 < (l0.length : Int)
      ·
       rw [if_pos c6] at H; have c6b0 : decide (x13_1 < (l0.length : Int)) = true := decide_eq_true c6; clear c6
       by_cases c7 : x13_1 < (l1.length : Int)
       ·
        rw [if_pos c7] at H; have c7b0 : decide (x13_1 < (l1.length : Int)) = true := decide_eq_true c7; clear c7
        by_cases c8 : (rd l0 x13_1) = (rd l1 x13_1)
        ·
         rw [if_pos c8] at H; have c8b0 : ((rd l0 x13_1) == (rd l1 x13_1)) = true := beq_iff_eq.mpr c8; have c8b1 : ((rd l0 x13_1) != (rd l1 x13_1)) = false := bne_eq_false_iff_eq.mpr c8; clear c8; have H' := a_ H; clear H; have p328 : 0 ≤ (x13_1 : Int) := of_decide_eq_true t0_; have q328 : x13_1 < (l0.length : Int) := of_decide_eq_true t0_; obtain ⟨ad328, e328, hx328_0⟩ := Kd.at_int HR0.out x13_1 p328 q328
         cases e328
         replace p328 := eq_true p328; replace q328 := eq_true q328; have p329 : 0 ≤ (x13_1 : Int) := of_decide_eq_true t0_; have q329 : x13_1 < (l1.length : Int) := of_decide_eq_true t0_; obtain ⟨ad329, e329, hx329_0⟩ := Kd.at_int HR1.out x13_1 p329 q329
         cases e329
         replace p329 := eq_true p329; replace q329 := eq_true q329
         go_wp2
         repeat (go_quiet (fail); try go_wp2)
         go_roundg k1
         case measure => have := HK1.out; omega
         case rel => exact ⟨(wrap64 (x13_1 + 1)), t2_, H', ⟨t52_⟩, by repeat (first | exact Drawn0.refl _ | apply Drawn0.step)⟩
        ·
         rw [if_neg c8] at H; have c8b0 : ((rd l0 x13_1) == (rd l1 x13_1)) = false := beq_eq_false_iff_ne.mpr c8; have c8b1 : ((rd l0 x13_1) != (rd l1 x13_1)) = true := bne_iff_ne.mpr c8; obtain rfl := Option.some.inj H; have p328 : 0 ≤ (x13_1 : Int) := of_decide_eq_true t0_; have q328 : x13_1 < (l0.length : Int) := of_decide_eq_true t0_; obtain ⟨ad328, e328, hx328_0⟩ := Kd.at_int HR0.out x13_1 p328 q328
         cases e328
         replace p328 := eq_true p328; replace q328 := eq_true q328; have p329 : 0 ≤ (x13_1 : Int) := of_decide_eq_true t0_; have q329 : x13_1 < (l1.length : Int) := of_decide_eq_true t0_; obtain ⟨ad329, e329, hx329_0⟩ := Kd.at_int HR1.out x13_1 p329 q329
         cases e329
         replace p329 := eq_true p329; replace q329 := eq_true q329
         go_wp2
         repeat (go_quiet (fail); try go_wp2)
         go_ret
         exact ⟨by first | rfl | (simp; done) | (simp [*]; done), by repeat (first | exact Drawn0.refl _ | apply Drawn0.step)⟩
       ·
        rw [if_neg c7] at H
        exact absurd H t31_
      ·
       rw [if_neg c6] at H
       exact absurd H t31_
     ·
      rw [if_neg c5] at H
      exact absurd H t31_
    ·
     rw [if_neg c4] at H; have c4b0 : decide (x13_1 < (l0.length : Int)) = false := decide_eq_false c4; clear c4; obtain rfl := Option.some.inj H
     go_wp2
     repeat (go_quiet (fail); try go_wp2)
     go_ret
     exact ⟨by first | rfl | (simp; done) | (simp [*]; done), by repeat (first | exact Drawn0.refl _ | apply Drawn0.step)⟩
 ·
  rw [if_neg c3] at H; have c3b0 : ((l0.length : Int) == (l1.length : Int)) = false := beq_eq_false_iff_ne.mpr c3; have c3b1 : ((l0.length : Int) != (l1.length : Int)) = true := bne_iff_ne.mpr c3; have c3b2 : (l0.length == l1.length) = false := by first | simpa using c3 | (simp at c3 ⊢; omega)
  obtain rfl := Option.some.inj H
  go_enter Try.func19, Try.ntmps19
  go_wp2
  repeat (go_quiet (fail); try go_wp2)
  go_ret
  exact ⟨by first | rfl | (simp; done) | (simp [*]; done), by repeat (first | exact Drawn0.refl _ | apply Drawn0.step)⟩
end Go.Proofs.Ytacmfgbeaoalfaa.QFnDartsFinish
