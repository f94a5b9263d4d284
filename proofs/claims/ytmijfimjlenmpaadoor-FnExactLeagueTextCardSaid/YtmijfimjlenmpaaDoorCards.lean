/-
  DERIVED. GIVEN WITH THE SEED: THE CARDS: each row of YtmijfimjlenmpaaDoorRows.lean that lists a variable, with what it lists TIED to the program's text (the seventh form; the later family's looks); each row that meets fmt, with fmt's text TOLD by the authors' own Lean function (tested against real Go, not proved from fmt's source: count such statements apart). THE CARD IS WHAT COUNTS. Prove the row's statement (the work); the ties are given (YtmijfimjlenmpaaDoorTie.lean); close each card by the builder's one call (the guide's Derived/Test/ToyasCard.lean, 'card_holds'). Laid BY PROGRAM, IN A SANDBOX (cutbox-door.mjs). By AI agents, Wed Nov 11 2026. No macro, syntax, notation, axiom, sorry.
-/
import Derived.Test.YtmijfimjlenmpaaDoorRows
import GoSem.ClaimSeven
namespace Go.Proofs.YtmijfimjlenmpaaDoor
namespace Rows

/-- THE TIED CARD OF 'laws.FnExactLeagueText'. -/
def fnExactLeagueTextCard : Claim7 := { stood := { row := fnExactLeagueTextRow, standIns := [], harness := (true, "38994171ee53dbd2b06e4deb69a107bb62c36515af9133c6ca415d57c043c127"), looks := false }, kinds := [], alts := [], laidByText := true, laidKinds := [.data, .data, .data], laidTests := true, laidLooks := .later }
def FnExactLeagueTextCardSaid : Prop := Claim7.holds Tryd.pinned (.plain (OpenSpec.ofChange fnExactLeagueTextSpec)) fnExactLeagueTextCard

/-- THE TIED CARD OF 'laws.FnExactKindsText'. -/
def fnExactKindsTextCard : Claim7 := { stood := { row := fnExactKindsTextRow, standIns := [], harness := (true, "38994171ee53dbd2b06e4deb69a107bb62c36515af9133c6ca415d57c043c127"), looks := false }, kinds := [], alts := [], laidByText := true, laidKinds := [.data, .data, .data], laidTests := true, laidLooks := .later }
def FnExactKindsTextCardSaid : Prop := Claim7.holds Tryd.pinned (.plain (OpenSpec.ofChange fnExactKindsTextSpec)) fnExactKindsTextCard

/-- THE SECOND FORM's CARD OF 'laws.FnExactLeagueText'. -/
def fnExactLeagueTextUptoCard : Claim7 := { stood := { row := fnExactLeagueTextUptoRow, standIns := [], harness := (true, "38994171ee53dbd2b06e4deb69a107bb62c36515af9133c6ca415d57c043c127"), looks := false }, kinds := [], alts := [], laidByText := true, laidKinds := [.data, .data, .data], laidTests := true, laidLooks := .later }
def FnExactLeagueTextUptoCardSaid : Prop := Claim7.holds Tryd.pinned (.plain (OpenSpec.upto fnExactLeagueTextSpec)) fnExactLeagueTextUptoCard

/-- THE SECOND FORM's CARD OF 'laws.FnExactKindsText'. -/
def fnExactKindsTextUptoCard : Claim7 := { stood := { row := fnExactKindsTextUptoRow, standIns := [], harness := (true, "38994171ee53dbd2b06e4deb69a107bb62c36515af9133c6ca415d57c043c127"), looks := false }, kinds := [], alts := [], laidByText := true, laidKinds := [.data, .data, .data], laidTests := true, laidLooks := .later }
def FnExactKindsTextUptoCardSaid : Prop := Claim7.holds Tryd.pinned (.plain (OpenSpec.upto fnExactKindsTextSpec)) fnExactKindsTextUptoCard
end Rows
end Go.Proofs.YtmijfimjlenmpaaDoor
