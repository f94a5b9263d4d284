/- The law of RoundsFor, walked where it answers true. -/
import Derived.Test.YtpaffojjkkmnlaaPFnExactRoundsForx3
import Derived.Test.YtpaffojjkkmnlaaGMark3
namespace Go.Proofs.Ytpaffojjkkmnlaa.PFnExactRoundsFor
open Go.RowKit Go.Proofs.YtpaffojjkkmnlaaW.PrintWords Go.Proofs.YtpaffojjkkmnlaaW.PrintLast Go.Proofs.YtpaffojjkkmnlaaW.PrintMore
set_option linter.unusedVariables false
set_option linter.unusedSimpArgs false
theorem apart_C {w : World} {A : Option Addr} {n : Nat} {xs : List (List (List Int))} (h : (S3.apart 29 (Kd.slice 3 (Kd.int .i64))).C w A n xs) : (Kd.slice 29 (Kd.slice 3 (Kd.int .i64))).C w A n xs := h
theorem held_at {w : World} {base n k c : Nat} {ok : Nat → Prop} {A : Option Addr} {R2 : List (List (List Int))} {m : Int} (h : Kd.S (S3.apart 29 (Kd.slice 3 (Kd.int .i64))) 30 w base ok (.slice A n c) R2) (hh : laws_heldIntSSS.f k R2 1 = some m) :
    Calls Try.prog 8 #[.slice A n c, .int .i64 1] w fun e w' => e = .returned (.int .i64 m) ∧ Drawn0 w w' := by
  obtain ⟨e, hc, hC⟩ := Kd.S_reads' h
  subst e
  exact laws_heldIntSSS.calls k A c R2 1 m w (apart_C hC) hc hh
def ImplSays (a0 : Int) (R : List (List (List Int))) (b : Bool) : Prop := ∀ w : World, Calls Try.prog 5 #[.int .i64 a0] w fun e w' => ∃ v0_ : Value, e = .returned (.tuple #[v0_, .bool b]) ∧ Kd.S (S3.apart 29 (Kd.slice 3 (Kd.int .i64))) 30 w' w.heap.size (fun _ => True) v0_ R ∧ Below w.heap.size w w'
set_option maxHeartbeats 8000000 in
set_option maxRecDepth 100000 in
theorem law.walk (a0 : Int) (k : Nat) (R R2 : List (List (List Int))) (b : Bool) (m : Int) (w : World) (hs : spec_RoundsFor.f k a0 = some (R, b)) (hi : ImplSays a0 R b) (he : laws_eqIntSSS.f k R R = some true) (hmk : laws_markIntSSS.f k R 1 = some (m, R2)) (hh : laws_heldIntSSS.f k R2 1 = some m) (hm : 0 ≤ m) :
    Calls Try.prog 3 #[.int .i64 a0] w fun e w' => e = .returned (.bool true) ∧ Below w.heap.size w w' := by
  have HSp := Aside0.mk hs
  have HI1 := Aside0.mk hi
  have HI2 := Aside0.mk hi
  have HE1 := Aside0.mk he
  have HE2 := Aside0.mk he
  have HM := Aside0.mk hmk
  have HH1 := Aside0.mk hh
  have HH2 := Aside0.mk hh
  have hm0 : decide (m < 0) = false := decide_eq_false (by omega)
  have hbb : (b != b) = false := by cases b <;> rfl
  have hbe : (b == b) = true := by cases b <;> rfl
  clear hs hi he hmk hh hm
  go_enter Try.func3, Try.ntmps3
  go_wp2_with (first
    | (go_at_call 4; (with_reducible refine (spec_RoundsFor.calls k a0 R b _ HSp.out).mono ?_); rintro e w1 ⟨v1, rfl, hN1, hb1⟩; have HB1 := Aside0.mk hb1; obtain ⟨A1, c1, e1, l1, C1⟩ := Kd.N_reads hN1; subst e1; have HC1 := Aside0.mk C1; have HL1 := Aside0.mk l1; clear C1 l1 hN1 hb1)
    | (go_at_call 5; (refine (HI1.out _).mono ?_); rintro e w2 ⟨v2, rfl, hS2, hb2⟩; clear HI1; obtain ⟨A2, c2, e2⟩ := Kd.S_slice hS2; subst e2; have HS2 := Aside0.mk hS2; have HB2 := Aside0.mk hb2; clear hS2 hb2)
    | (go_at_call 6; (with_reducible refine (laws_eqIntSSS.calls k A2 c2 R A1 c1 R true _ (apart_C (Kd.S_reads' HS2.out).2.2) (Kd.S_reads' HS2.out).2.1 (Kd.C_below HC1.out HB2.out) HL1.out HE1.out).mono ?_); clear HE1; rintro e w' ⟨rfl, ⟨nd, rfl⟩⟩)
    | (go_at_call 7; (with_reducible refine (laws_markIntSSS.calls k _ (.slice A2 R.length c2) R 1 m R2 w1 _ (pw_below_drewN HB2.out _) (Kd.S_drewN HS2.out _) HM.out).mono ?_); rintro e w3 ⟨rfl, hS3, hb3, hk3⟩; have HL3 := Aside0.mk (Kd.S_reads' hS3).1; have HS3 := Aside0.mk hS3; have HB3 := Aside0.mk hb3; clear hS3 hb3 hk3)
    | (go_at_call 8; (refine (held_at HS3.out HH1.out).mono ?_); clear HH1; rintro e w' ⟨rfl, ⟨nd3, rfl⟩⟩)
    | (go_at_call 5; (refine (HI2.out _).mono ?_); rintro e w4 ⟨v4, rfl, hS4, hb4⟩; clear HI2; obtain ⟨A4, c4, e4⟩ := Kd.S_slice hS4; subst e4; have HS4 := Aside0.mk hS4; have HB4 := Aside0.mk hb4; clear hS4 hb4)
    | (go_at_call 6; (with_reducible refine (laws_eqIntSSS.calls k A4 c4 R A1 c1 R true _ (apart_C (Kd.S_reads' HS4.out).2.2) (Kd.S_reads' HS4.out).2.1 (Kd.C_below (Kd.C_below HC1.out HB3.out) (below_step (pw_below_drewN (Below.refl _ _) _) HB4.out)) HL1.out HE2.out).mono ?_); clear HE2; rintro e w' ⟨rfl, ⟨nd, rfl⟩⟩)
    | (go_at_call 8; (refine (held_at (Kd.S_drewN (Kd.S_below (Kd.S_drewN HS3.out _) HB4.out) _) HH2.out).mono ?_); clear HH2; rintro e w' ⟨rfl, ⟨nd, rfl⟩⟩))
  go_ret
  exact ⟨rfl, pw_below_drewN (below_step (pw_below_drewN (below_step HB1.out HB3.out) _) HB4.out) _⟩
end Go.Proofs.Ytpaffojjkkmnlaa.PFnExactRoundsFor
