/-
  DERIVED. GIVEN WITH THE SEED: THE CARDS: each row of YtlfbpidklpjieaaDoorRows.lean that lists a variable, with what it lists TIED to the program's text (the seventh form; the later family's looks); each row that meets fmt, with fmt's text TOLD by the authors' own Lean function (tested against real Go, not proved from fmt's source: count such statements apart). THE CARD IS WHAT COUNTS. Prove the row's statement (the work); the ties are given (YtlfbpidklpjieaaDoorTie.lean); close each card by the builder's one call (the guide's Derived/Test/ToyasCard.lean, 'card_holds'). Laid BY PROGRAM, IN A SANDBOX (cutbox-door.mjs). By AI agents, Wed Nov 11 2026. No macro, syntax, notation, axiom, sorry.
-/
import Derived.Test.YtlfbpidklpjieaaDoorRows
import GoSem.ClaimSeven
namespace Go.Proofs.YtlfbpidklpjieaaDoor
namespace Rows

/-- THE TIED CARD OF 'laws.FnExactServersOf'. -/
def fnExactServersOfCard : Claim7 := { stood := { row := fnExactServersOfRow, standIns := [], harness := (true, "d117a3056cd89f30a8f492dc0f5a994a69cd2975d0f45d0b88b2830477ab7ef7"), looks := false }, kinds := [], alts := [], laidByText := true, laidKinds := [.data, .pinned], laidTests := true, laidLooks := .later }
def FnExactServersOfCardSaid : Prop := Claim7.holds Tryd.pinned (.plain (OpenSpec.ofChange fnExactServersOfSpec)) fnExactServersOfCard

/-- THE TIED CARD OF 'laws.FnExactLongestRun'. -/
def fnExactLongestRunCard : Claim7 := { stood := { row := fnExactLongestRunRow, standIns := [], harness := (true, "d117a3056cd89f30a8f492dc0f5a994a69cd2975d0f45d0b88b2830477ab7ef7"), looks := false }, kinds := [], alts := [], laidByText := true, laidKinds := [.data, .pinned], laidTests := true, laidLooks := .later }
def FnExactLongestRunCardSaid : Prop := Claim7.holds Tryd.pinned (.plain (OpenSpec.ofChange fnExactLongestRunSpec)) fnExactLongestRunCard

/-- THE TIED CARD OF 'laws.FnExactPointsOnServe'. -/
def fnExactPointsOnServeCard : Claim7 := { stood := { row := fnExactPointsOnServeRow, standIns := [], harness := (true, "d117a3056cd89f30a8f492dc0f5a994a69cd2975d0f45d0b88b2830477ab7ef7"), looks := false }, kinds := [], alts := [], laidByText := true, laidKinds := [.data, .pinned], laidTests := true, laidLooks := .later }
def FnExactPointsOnServeCardSaid : Prop := Claim7.holds Tryd.pinned (.plain (OpenSpec.ofChange fnExactPointsOnServeSpec)) fnExactPointsOnServeCard

/-- THE TIED CARD OF 'laws.FnExactIsPlay'. -/
def fnExactIsPlayCard : Claim7 := { stood := { row := fnExactIsPlayRow, standIns := [], harness := (true, "d117a3056cd89f30a8f492dc0f5a994a69cd2975d0f45d0b88b2830477ab7ef7"), looks := false }, kinds := [], alts := [], laidByText := true, laidKinds := [.data, .pinned], laidTests := true, laidLooks := .later }
def FnExactIsPlayCardSaid : Prop := Claim7.holds Tryd.pinned (.plain (OpenSpec.ofChange fnExactIsPlaySpec)) fnExactIsPlayCard

/-- THE TIED CARD OF 'laws.FnExactPointsIn'. -/
def fnExactPointsInCard : Claim7 := { stood := { row := fnExactPointsInRow, standIns := [], harness := (true, "d117a3056cd89f30a8f492dc0f5a994a69cd2975d0f45d0b88b2830477ab7ef7"), looks := false }, kinds := [], alts := [], laidByText := true, laidKinds := [.data, .pinned], laidTests := true, laidLooks := .later }
def FnExactPointsInCardSaid : Prop := Claim7.holds Tryd.pinned (.plain (OpenSpec.ofChange fnExactPointsInSpec)) fnExactPointsInCard

/-- THE TIED CARD OF 'laws.FnExactWinnerOf'. -/
def fnExactWinnerOfCard : Claim7 := { stood := { row := fnExactWinnerOfRow, standIns := [], harness := (true, "d117a3056cd89f30a8f492dc0f5a994a69cd2975d0f45d0b88b2830477ab7ef7"), looks := false }, kinds := [], alts := [], laidByText := true, laidKinds := [.data, .pinned], laidTests := true, laidLooks := .later }
def FnExactWinnerOfCardSaid : Prop := Claim7.holds Tryd.pinned (.plain (OpenSpec.ofChange fnExactWinnerOfSpec)) fnExactWinnerOfCard

/-- THE TIED CARD OF 'laws.FnExactNextWinners'. -/
def fnExactNextWinnersCard : Claim7 := { stood := { row := fnExactNextWinnersRow, standIns := [], harness := (true, "d117a3056cd89f30a8f492dc0f5a994a69cd2975d0f45d0b88b2830477ab7ef7"), looks := false }, kinds := [], alts := [], laidByText := true, laidKinds := [.data, .pinned], laidTests := true, laidLooks := .later }
def FnExactNextWinnersCardSaid : Prop := Claim7.holds Tryd.pinned (.plain (OpenSpec.ofChange fnExactNextWinnersSpec)) fnExactNextWinnersCard

/-- THE TIED CARD OF 'laws.FnExactFewestToWin'. -/
def fnExactFewestToWinCard : Claim7 := { stood := { row := fnExactFewestToWinRow, standIns := [], harness := (true, "d117a3056cd89f30a8f492dc0f5a994a69cd2975d0f45d0b88b2830477ab7ef7"), looks := false }, kinds := [], alts := [], laidByText := true, laidKinds := [.data, .pinned], laidTests := true, laidLooks := .later }
def FnExactFewestToWinCardSaid : Prop := Claim7.holds Tryd.pinned (.plain (OpenSpec.ofChange fnExactFewestToWinSpec)) fnExactFewestToWinCard

/-- THE TIED CARD OF 'laws.FnExactGreatestComeback'. -/
def fnExactGreatestComebackCard : Claim7 := { stood := { row := fnExactGreatestComebackRow, standIns := [], harness := (true, "d117a3056cd89f30a8f492dc0f5a994a69cd2975d0f45d0b88b2830477ab7ef7"), looks := false }, kinds := [], alts := [], laidByText := true, laidKinds := [.data, .pinned], laidTests := true, laidLooks := .later }
def FnExactGreatestComebackCardSaid : Prop := Claim7.holds Tryd.pinned (.plain (OpenSpec.ofChange fnExactGreatestComebackSpec)) fnExactGreatestComebackCard

/-- THE TIED CARD OF 'laws.FnExactMatchOf'. -/
def fnExactMatchOfCard : Claim7 := { stood := { row := fnExactMatchOfRow, standIns := [], harness := (true, "d117a3056cd89f30a8f492dc0f5a994a69cd2975d0f45d0b88b2830477ab7ef7"), looks := false }, kinds := [], alts := [], laidByText := true, laidKinds := [.data, .pinned], laidTests := true, laidLooks := .later }
def FnExactMatchOfCardSaid : Prop := Claim7.holds Tryd.pinned (.plain (OpenSpec.ofChange fnExactMatchOfSpec)) fnExactMatchOfCard

/-- THE SECOND FORM's CARD OF 'laws.FnExactServersOf'. -/
def fnExactServersOfUptoCard : Claim7 := { stood := { row := fnExactServersOfUptoRow, standIns := [], harness := (true, "d117a3056cd89f30a8f492dc0f5a994a69cd2975d0f45d0b88b2830477ab7ef7"), looks := false }, kinds := [], alts := [], laidByText := true, laidKinds := [.data, .pinned], laidTests := true, laidLooks := .later }
def FnExactServersOfUptoCardSaid : Prop := Claim7.holds Tryd.pinned (.plain (OpenSpec.upto fnExactServersOfSpec)) fnExactServersOfUptoCard

/-- THE SECOND FORM's CARD OF 'laws.FnExactLongestRun'. -/
def fnExactLongestRunUptoCard : Claim7 := { stood := { row := fnExactLongestRunUptoRow, standIns := [], harness := (true, "d117a3056cd89f30a8f492dc0f5a994a69cd2975d0f45d0b88b2830477ab7ef7"), looks := false }, kinds := [], alts := [], laidByText := true, laidKinds := [.data, .pinned], laidTests := true, laidLooks := .later }
def FnExactLongestRunUptoCardSaid : Prop := Claim7.holds Tryd.pinned (.plain (OpenSpec.upto fnExactLongestRunSpec)) fnExactLongestRunUptoCard

/-- THE SECOND FORM's CARD OF 'laws.FnExactPointsOnServe'. -/
def fnExactPointsOnServeUptoCard : Claim7 := { stood := { row := fnExactPointsOnServeUptoRow, standIns := [], harness := (true, "d117a3056cd89f30a8f492dc0f5a994a69cd2975d0f45d0b88b2830477ab7ef7"), looks := false }, kinds := [], alts := [], laidByText := true, laidKinds := [.data, .pinned], laidTests := true, laidLooks := .later }
def FnExactPointsOnServeUptoCardSaid : Prop := Claim7.holds Tryd.pinned (.plain (OpenSpec.upto fnExactPointsOnServeSpec)) fnExactPointsOnServeUptoCard

/-- THE SECOND FORM's CARD OF 'laws.FnExactIsPlay'. -/
def fnExactIsPlayUptoCard : Claim7 := { stood := { row := fnExactIsPlayUptoRow, standIns := [], harness := (true, "d117a3056cd89f30a8f492dc0f5a994a69cd2975d0f45d0b88b2830477ab7ef7"), looks := false }, kinds := [], alts := [], laidByText := true, laidKinds := [.data, .pinned], laidTests := true, laidLooks := .later }
def FnExactIsPlayUptoCardSaid : Prop := Claim7.holds Tryd.pinned (.plain (OpenSpec.upto fnExactIsPlaySpec)) fnExactIsPlayUptoCard

/-- THE SECOND FORM's CARD OF 'laws.FnExactPointsIn'. -/
def fnExactPointsInUptoCard : Claim7 := { stood := { row := fnExactPointsInUptoRow, standIns := [], harness := (true, "d117a3056cd89f30a8f492dc0f5a994a69cd2975d0f45d0b88b2830477ab7ef7"), looks := false }, kinds := [], alts := [], laidByText := true, laidKinds := [.data, .pinned], laidTests := true, laidLooks := .later }
def FnExactPointsInUptoCardSaid : Prop := Claim7.holds Tryd.pinned (.plain (OpenSpec.upto fnExactPointsInSpec)) fnExactPointsInUptoCard

/-- THE SECOND FORM's CARD OF 'laws.FnExactWinnerOf'. -/
def fnExactWinnerOfUptoCard : Claim7 := { stood := { row := fnExactWinnerOfUptoRow, standIns := [], harness := (true, "d117a3056cd89f30a8f492dc0f5a994a69cd2975d0f45d0b88b2830477ab7ef7"), looks := false }, kinds := [], alts := [], laidByText := true, laidKinds := [.data, .pinned], laidTests := true, laidLooks := .later }
def FnExactWinnerOfUptoCardSaid : Prop := Claim7.holds Tryd.pinned (.plain (OpenSpec.upto fnExactWinnerOfSpec)) fnExactWinnerOfUptoCard

/-- THE SECOND FORM's CARD OF 'laws.FnExactNextWinners'. -/
def fnExactNextWinnersUptoCard : Claim7 := { stood := { row := fnExactNextWinnersUptoRow, standIns := [], harness := (true, "d117a3056cd89f30a8f492dc0f5a994a69cd2975d0f45d0b88b2830477ab7ef7"), looks := false }, kinds := [], alts := [], laidByText := true, laidKinds := [.data, .pinned], laidTests := true, laidLooks := .later }
def FnExactNextWinnersUptoCardSaid : Prop := Claim7.holds Tryd.pinned (.plain (OpenSpec.upto fnExactNextWinnersSpec)) fnExactNextWinnersUptoCard

/-- THE SECOND FORM's CARD OF 'laws.FnExactFewestToWin'. -/
def fnExactFewestToWinUptoCard : Claim7 := { stood := { row := fnExactFewestToWinUptoRow, standIns := [], harness := (true, "d117a3056cd89f30a8f492dc0f5a994a69cd2975d0f45d0b88b2830477ab7ef7"), looks := false }, kinds := [], alts := [], laidByText := true, laidKinds := [.data, .pinned], laidTests := true, laidLooks := .later }
def FnExactFewestToWinUptoCardSaid : Prop := Claim7.holds Tryd.pinned (.plain (OpenSpec.upto fnExactFewestToWinSpec)) fnExactFewestToWinUptoCard

/-- THE SECOND FORM's CARD OF 'laws.FnExactGreatestComeback'. -/
def fnExactGreatestComebackUptoCard : Claim7 := { stood := { row := fnExactGreatestComebackUptoRow, standIns := [], harness := (true, "d117a3056cd89f30a8f492dc0f5a994a69cd2975d0f45d0b88b2830477ab7ef7"), looks := false }, kinds := [], alts := [], laidByText := true, laidKinds := [.data, .pinned], laidTests := true, laidLooks := .later }
def FnExactGreatestComebackUptoCardSaid : Prop := Claim7.holds Tryd.pinned (.plain (OpenSpec.upto fnExactGreatestComebackSpec)) fnExactGreatestComebackUptoCard

/-- THE SECOND FORM's CARD OF 'laws.FnExactMatchOf'. -/
def fnExactMatchOfUptoCard : Claim7 := { stood := { row := fnExactMatchOfUptoRow, standIns := [], harness := (true, "d117a3056cd89f30a8f492dc0f5a994a69cd2975d0f45d0b88b2830477ab7ef7"), looks := false }, kinds := [], alts := [], laidByText := true, laidKinds := [.data, .pinned], laidTests := true, laidLooks := .later }
def FnExactMatchOfUptoCardSaid : Prop := Claim7.holds Tryd.pinned (.plain (OpenSpec.upto fnExactMatchOfSpec)) fnExactMatchOfUptoCard
end Rows
end Go.Proofs.YtlfbpidklpjieaaDoor
