/- strings.Join by the shelf's contract, in the printer's own form. Condition: the whole result is no longer than 2^47 bytes. -/
import Derived.Test.YthcbaogbncakdaaGreatDoorcJoin
import Derived.Test.YthcbaogbncakdaaGreatDoorV1
namespace Go.Proofs.YthcbaogbncakdaaGreatDoor
open Go.RowKit Go.Proofs.YthcbaogbncakdaaGreatDoorW.PrintWords Go.Proofs.YthcbaogbncakdaaGreatDoorW.PrintLast Go.Proofs.YthcbaogbncakdaaGreatDoorW.PrintMore
def strings_Join.f (l0 : List ByteArray) (a1 : ByteArray) : Option ByteArray :=
  if l0.length ≤ 140737488355328 ∧ (Lib.join (l0.map (·.data.toList)) a1.data.toList).length ≤ 140737488355328 then some ⟨(Lib.join (l0.map (·.data.toList)) a1.data.toList).toArray⟩ else none
theorem cell_plain {w : World} {a : Addr} {v : Value} (h : w.cell? a = some v) : a = ⟨a.block, a.off, none⟩ := by
  unfold World.cell? at h
  split at h
  · obtain ⟨b, o, s⟩ := a
    cases s with
    | none => rfl
    | some _ => simp at h
  · cases h
theorem strings_Join.calls (A0 : Option Addr) (c0 : Nat) (l0 : List ByteArray) (a1 : ByteArray) (r : ByteArray) (w : World) (hr0 : Kd.C Kd.string w A0 l0.length l0) (hc0 : l0.length ≤ c0) (h : strings_Join.f l0 a1 = some r) :
    Calls Tryz.prog 60 #[.slice A0 l0.length c0, .string a1] w fun e w' => e = .returned (.string r) ∧ Below w.heap.size w w' := by
  unfold strings_Join.f at h
  by_cases c : l0.length ≤ 140737488355328 ∧ (Lib.join (l0.map (·.data.toList)) a1.data.toList).length ≤ 140737488355328
  · rw [if_pos c] at h
    obtain rfl := Option.some.inj h
    by_cases h0 : 0 < l0.length
    · obtain ⟨ad, rfl, hx⟩ := Kd.at_string hr0 0 (by omega) (by omega)
      have hp := cell_plain hx
      have hlt := World.block_lt_of_cell? w _ hx
      have e0 : ad.add (0 : Int).toNat = ad := rfl
      rw [e0] at hp hlt
      obtain ⟨bk, o, s⟩ := ad
      simp only [Addr.mk.injEq, true_and] at hp
      subst hp
      refine (Tryz.strings_Join bk o c0 l0 a1 w ?_ hlt c.1 hc0 c.2).mono ?_
      · intro j x hj
        obtain ⟨hjl, rfl⟩ := List.getElem?_eq_some_iff.1 hj
        obtain ⟨ad, ha, hx⟩ := Kd.at_string hr0 (j : Int) (by omega) (by omega)
        obtain rfl := Option.some.inj ha
        have e1 : rdOf ByteArray.empty l0 (j : Int) = l0[j] := by
          unfold rdOf
          simp [List.getD_eq_getElem?_getD, List.getElem?_eq_getElem hjl]
        rw [e1, Int.toNat_natCast] at hx
        by_cases hj0 : j = 0
        · subst hj0
          exact hx
        · simpa [Addr.add, hj0] using hx
      · rintro e w' ⟨rfl, hb⟩
        exact ⟨rfl, hb⟩
    · have e0 : l0 = [] := List.eq_nil_of_length_eq_zero (by omega)
      subst e0
      refine (Tryz.strings_Join_none A0 c0 a1 w).mono ?_
      rintro e w' ⟨rfl, rfl⟩
      exact ⟨rfl, Below.refl _ _⟩
  · rw [if_neg c] at h
    cases h
end Go.Proofs.YthcbaogbncakdaaGreatDoor
