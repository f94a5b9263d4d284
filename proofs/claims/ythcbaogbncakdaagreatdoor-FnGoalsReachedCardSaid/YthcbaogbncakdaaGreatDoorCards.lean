/-
  DERIVED. GIVEN WITH THE SEED: THE CARDS: each row of YthcbaogbncakdaaGreatDoorRows.lean that lists a variable, with what it lists TIED to the program's text (the seventh form; the later family's looks); each row that meets fmt, with fmt's text TOLD by the authors' own Lean function (tested against real Go, not proved from fmt's source: count such statements apart). THE CARD IS WHAT COUNTS. Prove the row's statement (the work); the ties are given (YthcbaogbncakdaaGreatDoorTie.lean); close each card by the builder's one call (the guide's Derived/Test/ToyasCard.lean, 'card_holds'). Laid BY PROGRAM, IN A SANDBOX (cutbox-door.mjs). By AI agents, Wed Nov 11 2026. No macro, syntax, notation, axiom, sorry.
-/
import Derived.Test.YthcbaogbncakdaaGreatDoorRows
import GoSem.ClaimSeven
namespace Go.Proofs.YthcbaogbncakdaaGreatDoor
namespace Rows

/-- THE TIED CARD OF 'laws.FnGoalsReached'. -/
def fnGoalsReachedCard : Claim7 := { stood := { row := fnGoalsReachedRow, standIns := [], harness := (true, "76ed30a740b00e0e4d9e03392a12c543a0a0920241c6548463bf1701d4956bf5"), looks := true }, kinds := [], alts := [], laidByText := true, laidKinds := [.data, .data, .data, .data, .sentinel, .sentinel, .pinned], laidTests := true, laidLooks := .later }
def FnGoalsReachedCardSaid : Prop := Claim7.holds Tryz.pinned (.plain (OpenSpec.ofChange fnGoalsReachedSpec)) fnGoalsReachedCard

/-- THE SECOND FORM's CARD OF 'laws.FnGoalsReached'. -/
def fnGoalsReachedUptoCard : Claim7 := { stood := { row := fnGoalsReachedUptoRow, standIns := [], harness := (true, "76ed30a740b00e0e4d9e03392a12c543a0a0920241c6548463bf1701d4956bf5"), looks := true }, kinds := [], alts := [], laidByText := true, laidKinds := [.data, .data, .data, .data, .sentinel, .sentinel, .pinned], laidTests := true, laidLooks := .later }
def FnGoalsReachedUptoCardSaid : Prop := Claim7.holds Tryz.pinned (.plain (OpenSpec.upto fnGoalsReachedSpec)) fnGoalsReachedUptoCard
end Rows
end Go.Proofs.YthcbaogbncakdaaGreatDoor
