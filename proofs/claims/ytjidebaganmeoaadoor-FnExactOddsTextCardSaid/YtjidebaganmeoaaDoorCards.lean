/-
  DERIVED. GIVEN WITH THE SEED: THE CARDS: each row of YtjidebaganmeoaaDoorRows.lean that lists a variable, with what it lists TIED to the program's text (the seventh form; the later family's looks); each row that meets fmt, with fmt's text TOLD by the authors' own Lean function (tested against real Go, not proved from fmt's source: count such statements apart). THE CARD IS WHAT COUNTS. Prove the row's statement (the work); the ties are given (YtjidebaganmeoaaDoorTie.lean); close each card by the builder's one call (the guide's Derived/Test/ToyasCard.lean, 'card_holds'). Laid BY PROGRAM, IN A SANDBOX (cutbox-door.mjs). By AI agents, Wed Nov 11 2026. No macro, syntax, notation, axiom, sorry.
-/
import Derived.Test.YtjidebaganmeoaaDoorRows
import GoSem.ClaimSeven
namespace Go.Proofs.YtjidebaganmeoaaDoor
namespace Rows

/-- THE TIED CARD OF 'laws.FnExactRaceText'. -/
def fnExactRaceTextCard : Claim7 := { stood := { row := fnExactRaceTextRow, standIns := [], harness := (true, "9aae4a3df9e22d782be82ec49f81d6a841167a18df0c42d172f4cfc178b0fc24"), looks := false }, kinds := [], alts := [], laidByText := true, laidKinds := [.data, .data, .data], laidTests := true, laidLooks := .later }
def FnExactRaceTextCardSaid : Prop := Claim7.holds Tryd.pinned (.plain (OpenSpec.ofChange fnExactRaceTextSpec)) fnExactRaceTextCard

/-- THE TIED CARD OF 'laws.FnExactOddsText'. -/
def fnExactOddsTextCard : Claim7 := { stood := { row := fnExactOddsTextRow, standIns := [], harness := (true, "9aae4a3df9e22d782be82ec49f81d6a841167a18df0c42d172f4cfc178b0fc24"), looks := false }, kinds := [], alts := [], laidByText := true, laidKinds := [.data, .data, .data], laidTests := true, laidLooks := .later }
def FnExactOddsTextCardSaid : Prop := Claim7.holds Tryd.pinned (.plain (OpenSpec.ofChange fnExactOddsTextSpec)) fnExactOddsTextCard

/-- THE SECOND FORM's CARD OF 'laws.FnExactRaceText'. -/
def fnExactRaceTextUptoCard : Claim7 := { stood := { row := fnExactRaceTextUptoRow, standIns := [], harness := (true, "9aae4a3df9e22d782be82ec49f81d6a841167a18df0c42d172f4cfc178b0fc24"), looks := false }, kinds := [], alts := [], laidByText := true, laidKinds := [.data, .data, .data], laidTests := true, laidLooks := .later }
def FnExactRaceTextUptoCardSaid : Prop := Claim7.holds Tryd.pinned (.plain (OpenSpec.upto fnExactRaceTextSpec)) fnExactRaceTextUptoCard

/-- THE SECOND FORM's CARD OF 'laws.FnExactOddsText'. -/
def fnExactOddsTextUptoCard : Claim7 := { stood := { row := fnExactOddsTextUptoRow, standIns := [], harness := (true, "9aae4a3df9e22d782be82ec49f81d6a841167a18df0c42d172f4cfc178b0fc24"), looks := false }, kinds := [], alts := [], laidByText := true, laidKinds := [.data, .data, .data], laidTests := true, laidLooks := .later }
def FnExactOddsTextUptoCardSaid : Prop := Claim7.holds Tryd.pinned (.plain (OpenSpec.upto fnExactOddsTextSpec)) fnExactOddsTextUptoCard
end Rows
end Go.Proofs.YtjidebaganmeoaaDoor
