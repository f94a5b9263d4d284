/- impl.isPoints, walked with strings.Trim by its contract: it tells whether a text is no longer than so many bytes, each of them a or b. Condition: the text's length is a number that an int holds. -/
import Derived.Test.YtiknaldhjbdnbaaGreatDoorcTrim
import Derived.Test.YtiknaldhjbdnbaaGreatDoorV1
import Derived.WalkKit
import Derived.KernelRfl
namespace Go.Proofs.YtiknaldhjbdnbaaGreatDoor
open Go.RowKit Go.Proofs.YtiknaldhjbdnbaaGreatDoorW.PrintWords Go.Proofs.YtiknaldhjbdnbaaGreatDoorW.PrintLast Go.Proofs.YtiknaldhjbdnbaaGreatDoorW.PrintMore
set_option linter.unusedVariables false
set_option linter.unusedSimpArgs false
def abB (c : UInt8) : Bool := c == 97 || c == 98
def impl_isPoints.f (a0 : ByteArray) (a1 : Int) : Option Bool :=
  if (a0.size : Int) ≤ a1 then (if a0.size ≤ 9223372036854775807 then some (a0.data.toList.all abB) else none) else some false
theorem ab_contains (c : UInt8) : ([97, 98] : List UInt8).contains c = abB c := by
  rw [Bool.eq_iff_iff]
  simp [abB]
theorem dropWhile_nil_iff (l : List UInt8) : l.dropWhile abB = [] ↔ l.all abB = true := by
  induction l with
  | nil => simp
  | cons c l ih =>
    rw [List.dropWhile_cons, List.all_cons, Bool.and_eq_true]
    by_cases h : abB c = true
    · simp [h, ih]
    · simp [h]
theorem dropWhile_append_bad (l : List UInt8) (c : UInt8) (h : abB c = false) : (l ++ [c]).dropWhile abB ≠ [] := by
  intro e
  rw [dropWhile_nil_iff] at e
  simp [h] at e
theorem trim_nil (l : List UInt8) : (Lib.trimS l [97, 98]).isEmpty = l.all abB := by
  have e : (fun x => ([97, 98] : List UInt8).contains x) = abB := funext ab_contains
  unfold Lib.trimS Lib.trimLeftS Lib.trimRightS
  rw [e]
  cases h : l.all abB
  · have hr : l.reverse.all abB = false := by rw [List.all_reverse]; exact h
    have h1 : l.reverse.dropWhile abB ≠ [] := by
      intro e1
      rw [dropWhile_nil_iff, hr] at e1
      cases e1
    obtain ⟨c, m, hm⟩ : ∃ c m, l.reverse.dropWhile abB = c :: m := by
      cases hd : l.reverse.dropWhile abB with
      | nil => exact absurd hd h1
      | cons c m => exact ⟨c, m, rfl⟩
    have hc : abB c = false := by
      have := List.head?_dropWhile_not abB l.reverse
      rw [hm] at this
      simpa using this
    rw [hm, List.reverse_cons]
    cases hd : (m.reverse ++ [c]).dropWhile abB with
    | nil => exact absurd hd (dropWhile_append_bad _ _ hc)
    | cons _ _ => rfl
  · have hr : l.reverse.all abB = true := by rw [List.all_reverse]; exact h
    rw [(dropWhile_nil_iff _).2 hr]
    rfl
set_option maxHeartbeats 1000000 in
theorem impl_isPoints.calls (a0 : ByteArray) (a1 : Int) (r : Bool) (w : World) (h : impl_isPoints.f a0 a1 = some r) :
    Calls Tryz.prog 42 #[.string a0, .int .i64 a1] w fun e w' => e = .returned (.bool r) ∧ Below w.heap.size w w' := by
  unfold impl_isPoints.f at h
  by_cases c : (a0.size : Int) ≤ a1
  · rw [if_pos c] at h
    by_cases c2 : a0.size ≤ 9223372036854775807
    · rw [if_pos c2] at h
      obtain rfl := Option.some.inj h
      clear h
      have cb : decide ((a0.size : Int) ≤ a1) = true := decide_eq_true c
      have C2 := Aside0.mk c2
      clear c c2
      go_enter Tryz.func42, Tryz.ntmps42
      go_wp2_with (go_at_call 61; (with_reducible refine (Tryz.strings_Trim_laid _ ⟨#[97, 98]⟩ _ C2.out (by decide) (ascii_of_all (by decide))).mono ?_); rintro e w' ⟨rfl, hb⟩)
      go_ret
      refine ⟨?_, hb⟩
      show Ending.returned (.bool (Lib.trimS a0.data.toList [97, 98]).isEmpty) = _
      rw [trim_nil]
    · rw [if_neg c2] at h
      cases h
  · rw [if_neg c] at h
    obtain rfl := Option.some.inj h
    have cb : decide ((a0.size : Int) ≤ a1) = false := decide_eq_false c
    clear c h
    go_enter Tryz.func42, Tryz.ntmps42
    go_wp2
    go_ret
    exact ⟨rfl, Below.refl _ _⟩
end Go.Proofs.YtiknaldhjbdnbaaGreatDoor
