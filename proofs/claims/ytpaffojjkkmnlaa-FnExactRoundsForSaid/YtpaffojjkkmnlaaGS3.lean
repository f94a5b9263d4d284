/- Rows of rows that lie apart, as elements of a row: so that rows of rows of rows are told apart by Kd.S. -/
import Derived.Test.YtpaffojjkkmnlaaWApart
namespace Go.Proofs.Ytpaffojjkkmnlaa.S3
open Go.RowKit Go.Proofs.YtpaffojjkkmnlaaW.PrintWords
variable {α : Type}
def apart (e : Nat) (d : Kd α) : Kd (List α) where
  sz := 1
  E := e :: d.E
  K := (Kd.slice e d).K
  M := fun w base ok x cs => ∃ v, cs = [v] ∧ Kd.S d e w base ok v x
  K_len := fun h => (Kd.slice e d).K_len h
  K_one := fun h => (Kd.slice e d).K_one h
  K_below := fun hb h => (Kd.slice e d).K_below hb h
  K_of_M := fun {w base ok x cs} h => by
    obtain ⟨v, rfl, hS⟩ := h
    exact (Kd.slice e d).K_of_M (base := base) (ok := ok) (Kd.M_row (Kd.S_R hS))
  M_mono := fun hk h => by
    obtain ⟨v, rfl, hS⟩ := h
    exact ⟨v, rfl, Kd.S_mono hS hk⟩
  M_bound := fun h => by
    obtain ⟨v, rfl, hS⟩ := h
    exact ⟨v, rfl, Kd.S_bound hS⟩
  M_move := fun hm h => by
    obtain ⟨v, rfl, hS⟩ := h
    exact ⟨v, rfl, Kd.S_move hS hm⟩
  M_lower := fun hb h => by
    obtain ⟨v, rfl, hS⟩ := h
    exact ⟨v, rfl, Kd.S_lower hS hb⟩
theorem apart_M {e : Nat} {d : Kd α} {w : World} {base : Nat} {ok : Nat → Prop} {v : Value} {xs : List α} (h : Kd.S d e w base ok v xs) : (apart e d).M w base ok xs [v] := ⟨v, rfl, h⟩
/-- What is read of a row of such elements. -/
theorem apart_C {e : Nat} {d : Kd α} {w : World} {A : Option Addr} {n : Nat} {xs : List (List α)} (h : (apart e d).C w A n xs) : (Kd.slice e d).C w A n xs := h
end Go.Proofs.Ytpaffojjkkmnlaa.S3
