/-
  DERIVED. GIVEN WITH THE SEED: THE CARDS: each row of YtiknaldhjbdnbaaGreatDoorRows.lean that lists a variable, with what it lists TIED to the program's text (the seventh form; the later family's looks); each row that meets fmt, with fmt's text TOLD by the authors' own Lean function (tested against real Go, not proved from fmt's source: count such statements apart). THE CARD IS WHAT COUNTS. Prove the row's statement (the work); the ties are given (YtiknaldhjbdnbaaGreatDoorTie.lean); close each card by the builder's one call (the guide's Derived/Test/ToyasCard.lean, 'card_holds'). Laid BY PROGRAM, IN A SANDBOX (cutbox-door.mjs). By AI agents, Wed Nov 11 2026. No macro, syntax, notation, axiom, sorry.
-/
import Derived.Test.YtiknaldhjbdnbaaGreatDoorRows
import GoSem.ClaimSeven
namespace Go.Proofs.YtiknaldhjbdnbaaGreatDoor
namespace Rows

/-- THE TIED CARD OF 'laws.FnRacesWon'. -/
def fnRacesWonCard : Claim7 := { stood := { row := fnRacesWonRow, standIns := [], harness := (true, "00114df16fe829ba6ae0265b3d9f6014ee16ee334285f0626d2ef13b11b6374d"), looks := true }, kinds := [], alts := [], laidByText := true, laidKinds := [.data, .pinned], laidTests := true, laidLooks := .later }
def FnRacesWonCardSaid : Prop := Claim7.holds Tryz.pinned (.plain (OpenSpec.ofChange fnRacesWonSpec)) fnRacesWonCard

/-- THE SECOND FORM's CARD OF 'laws.FnRacesWon'. -/
def fnRacesWonUptoCard : Claim7 := { stood := { row := fnRacesWonUptoRow, standIns := [], harness := (true, "00114df16fe829ba6ae0265b3d9f6014ee16ee334285f0626d2ef13b11b6374d"), looks := true }, kinds := [], alts := [], laidByText := true, laidKinds := [.data, .pinned], laidTests := true, laidLooks := .later }
def FnRacesWonUptoCardSaid : Prop := Claim7.holds Tryz.pinned (.plain (OpenSpec.upto fnRacesWonSpec)) fnRacesWonUptoCard
end Rows
end Go.Proofs.YtiknaldhjbdnbaaGreatDoor
