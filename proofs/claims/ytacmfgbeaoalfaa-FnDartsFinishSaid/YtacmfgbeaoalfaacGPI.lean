/- What is checked over all numbers left: counts against the table of the fewest darts, the first finishes. No condition. -/
import Derived.Test.YtacmfgbeaoalfaacGPG
namespace Go.Proofs.Ytacmfgbeaoalfaa.Pure
open Go.RowKit Go.Proofs.Ytacmfgbeaoalfaa.QFnDartsFinish Go.Proofs.YtacmfgbeaoalfaaW.PrintWords Go.Proofs.YtacmfgbeaoalfaaW.PrintLast Go.Proofs.YtacmfgbeaoalfaaW.PrintMore
set_option linter.unusedVariables false
set_option linter.unusedSimpArgs false
def ck1 (K j : Nat) : Bool := Nat.ble (cF K j) (cB (K + 1) j) && (orF j (K + 1) 0 == canN (K + 1) j)
theorem chk1_0 : (List.range 1002).all (ck1 0) = true := by kernel_rfl
theorem chk1_1 : (List.range 1002).all (ck1 1) = true := by kernel_rfl
theorem chk1_2 : (List.range 1002).all (ck1 2) = true := by kernel_rfl
theorem chk2 : (List.range 1002).all (fun j => bif Nat.blt j 2 then Nat.beq (tB j) 0 else (Nat.ble 2 (tB j) && Nat.ble j (60 * (tB j - 1)))) = true := by kernel_rfl
def inp : List Nat := List.range 190 ++ [501, 1001]
def ck3 (n : Nat) : Bool := bif Nat.blt n 2 then true else (Nat.ble (tB n) 18 && Nat.ble ((n + 59) / 60) (tB n - 1) && (List.range (tB n - 2)).all (fun y => Nat.blt (y + 1) ((n + 59) / 60) || Nat.beq (cF y n) 0) && Nat.blt 0 (cF (tB n - 2) n) && Nat.blt (cF (tB n - 2) n) 9223372036854775808)
theorem chk3 : inp.all ck3 = true := by kernel_rfl
def eqL : List S43 → List S43 → Bool
  | [], [] => true
  | a :: l, b :: m => decide (a.f0 = b.f0) && decide (a.f1 = b.f1) && eqL l m
  | _, _ => false
theorem eqL_eq : ∀ a b : List S43, eqL a b = true → a = b
  | [], [], _ => rfl
  | [], _ :: _, h => by cases h
  | _ :: _, [], h => by cases h
  | ⟨a0, a1⟩ :: l, ⟨b0, b1⟩ :: m, h => by
    unfold eqL at h
    rw [Bool.and_eq_true, Bool.and_eq_true] at h
    have h1 : a0 = b0 := of_decide_eq_true h.1.1
    have h2 : a1 = b1 := of_decide_eq_true h.1.2
    rw [h1, h2, eqL_eq l m h.2]
def ck4 (n : Nat) : Bool := bif Nat.blt (tB n) 2 || Nat.blt 4 (tB n) then true else
  (eqL (fI (tB n - 1) n) (fS (tB n - 2) n) && Nat.beq (fI (tB n - 1) n).length (tB n - 1) &&
    decide ((rd_T43 (fI (tB n - 1) n) (((fI (tB n - 1) n).length : Int) - 1)).f1 = 2) &&
    decide (impl_visitLeaves.f 40 (n : Int) (fI (tB n - 1) n) = some (0, false, true)) &&
    decide (laws_bAll.f 20 (fI (tB n - 1) n) = some ((n : Int), true)) && decide (laws_bDarts.f 20 (fI (tB n - 1) n) (fI (tB n - 1) n) = some true))
theorem chk4 : inp.all ck4 = true := by kernel_rfl
def hi (K : Nat) : Nat := bif Nat.beq K 1 then 50 else bif Nat.beq K 2 then 110 else 170
def ck5 (K : Nat) : Bool := canN K (hi K) && (List.range 1002).all (fun j => Nat.ble j (hi K) || !canN K j) && Nat.ble 43 (cp (cB K) 181 0) && Nat.ble (cp (cB K) 181 0) 180
theorem chk5 : [1, 2, 3].all ck5 = true := by kernel_rfl
end Go.Proofs.Ytacmfgbeaoalfaa.Pure
