/-
  DERIVED. GIVEN WITH THE SEED: THE CARDS: each row of YtfjgjljkfhpfbaaDoorRows.lean that lists a variable, with what it lists TIED to the program's text (the seventh form; the later family's looks); each row that meets fmt, with fmt's text TOLD by the authors' own Lean function (tested against real Go, not proved from fmt's source: count such statements apart). THE CARD IS WHAT COUNTS. Prove the row's statement (the work); the ties are given (YtfjgjljkfhpfbaaDoorTie.lean); close each card by the builder's one call (the guide's Derived/Test/ToyasCard.lean, 'card_holds'). Laid BY PROGRAM, IN A SANDBOX (cutbox-door.mjs). By AI agents, Wed Nov 11 2026. No macro, syntax, notation, axiom, sorry.
-/
import Derived.Test.YtfjgjljkfhpfbaaDoorRows
import GoSem.ClaimSeven
namespace Go.Proofs.YtfjgjljkfhpfbaaDoor
namespace Rows

/-- THE TIED CARD OF 'laws.FnExactTurnPlay'. -/
def fnExactTurnPlayCard : Claim7 := { stood := { row := fnExactTurnPlayRow, standIns := [], harness := (true, "881634541406d6bc64746a31c4f0aa9ae6c262a4b5293f24d34b3c4aef1c24dd"), looks := true }, kinds := [], alts := [], laidByText := true, laidKinds := [.data, .pinned], laidTests := true, laidLooks := .later }
def FnExactTurnPlayCardSaid : Prop := Claim7.holds Tryd.pinned (.plain (OpenSpec.ofChange fnExactTurnPlaySpec)) fnExactTurnPlayCard

/-- THE SECOND FORM's CARD OF 'laws.FnExactTurnPlay'. -/
def fnExactTurnPlayUptoCard : Claim7 := { stood := { row := fnExactTurnPlayUptoRow, standIns := [], harness := (true, "881634541406d6bc64746a31c4f0aa9ae6c262a4b5293f24d34b3c4aef1c24dd"), looks := true }, kinds := [], alts := [], laidByText := true, laidKinds := [.data, .pinned], laidTests := true, laidLooks := .later }
def FnExactTurnPlayUptoCardSaid : Prop := Claim7.holds Tryd.pinned (.plain (OpenSpec.upto fnExactTurnPlaySpec)) fnExactTurnPlayUptoCard
end Rows
end Go.Proofs.YtfjgjljkfhpfbaaDoor
