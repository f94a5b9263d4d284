/- strconv.Itoa at 0 .. 99, by the shelf's contract, in the printer's own form. -/
import Derived.Test.YthcbaogbncakdaaGreatDoorcItoa
import Derived.Test.YthcbaogbncakdaaGreatDoorV1
namespace Go.Proofs.YthcbaogbncakdaaGreatDoor
open Go.RowKit Go.Proofs.YthcbaogbncakdaaGreatDoorW.PrintWords Go.Proofs.YthcbaogbncakdaaGreatDoorW.PrintLast Go.Proofs.YthcbaogbncakdaaGreatDoorW.PrintMore
def strconv_Itoa.f (a0 : Int) : Option ByteArray := if 0 ≤ a0 ∧ a0 < 100 then some ⟨(Lib.decDigits a0.toNat).toArray⟩ else none
theorem strconv_Itoa.calls (a0 : Int) (r : ByteArray) (w : World) (h : strconv_Itoa.f a0 = some r) :
    Calls Tryz.prog 59 #[.int .i64 a0] w fun e w' => e = .returned (.string r) ∧ Drawn0 w w' := by
  unfold strconv_Itoa.f at h
  by_cases c : 0 ≤ a0 ∧ a0 < 100
  · rw [if_pos c] at h
    obtain rfl := Option.some.inj h
    have e : ((a0.toNat : Nat) : Int) = a0 := Int.toNat_of_nonneg c.1
    have hc := Tryz.strconv_Itoa_small a0.toNat (by omega) w
    rw [e] at hc
    refine hc.mono ?_
    rintro e w' ⟨rfl, rfl⟩
    exact ⟨rfl, Drawn0.refl _⟩
  · rw [if_neg c] at h
    cases h
end Go.Proofs.YthcbaogbncakdaaGreatDoor
