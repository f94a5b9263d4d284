/-
  DERIVED. GIVEN WITH THE SEED: THE CARDS: each row of YtahejnleejiobaaDoorRows.lean that lists a variable, with what it lists TIED to the program's text (the seventh form; the later family's looks); each row that meets fmt, with fmt's text TOLD by the authors' own Lean function (tested against real Go, not proved from fmt's source: count such statements apart). THE CARD IS WHAT COUNTS. Prove the row's statement (the work); the ties are given (YtahejnleejiobaaDoorTie.lean); close each card by the builder's one call (the guide's Derived/Test/ToyasCard.lean, 'card_holds'). Laid BY PROGRAM, IN A SANDBOX (cutbox-door.mjs). By AI agents, Wed Nov 11 2026. No macro, syntax, notation, axiom, sorry.
-/
import Derived.Test.YtahejnleejiobaaDoorRows
import GoSem.ClaimSeven
namespace Go.Proofs.YtahejnleejiobaaDoor
namespace Rows

/-- THE TIED CARD OF 'laws.FnExactParseKinds'. -/
def fnExactParseKindsCard : Claim7 := { stood := { row := fnExactParseKindsRow, standIns := [], harness := (true, "f8f05a6bbb0ab13176eebb8b838a0d486a2dcc5d658eda6c9516722a5883deaf"), looks := true }, kinds := [], alts := [], laidByText := true, laidKinds := [.data, .data, .data, .data, .sentinel, .sentinel, .pinned], laidTests := true, laidLooks := .later }
def FnExactParseKindsCardSaid : Prop := Claim7.holds Tryd.pinned (.plain (OpenSpec.ofChange fnExactParseKindsSpec)) fnExactParseKindsCard

/-- THE TIED CARD OF 'laws.FnExactParseRace'. -/
def fnExactParseRaceCard : Claim7 := { stood := { row := fnExactParseRaceRow, standIns := [], harness := (true, "f8f05a6bbb0ab13176eebb8b838a0d486a2dcc5d658eda6c9516722a5883deaf"), looks := true }, kinds := [], alts := [], laidByText := true, laidKinds := [.data, .data, .data, .sentinel, .sentinel], laidTests := true, laidLooks := .later }
def FnExactParseRaceCardSaid : Prop := Claim7.holds Tryd.pinned (.plain (OpenSpec.ofChange fnExactParseRaceSpec)) fnExactParseRaceCard

/-- THE TIED CARD OF 'laws.FnExactParseLeague'. -/
def fnExactParseLeagueCard : Claim7 := { stood := { row := fnExactParseLeagueRow, standIns := [], harness := (true, "f8f05a6bbb0ab13176eebb8b838a0d486a2dcc5d658eda6c9516722a5883deaf"), looks := true }, kinds := [], alts := [], laidByText := true, laidKinds := [.data, .data, .data, .data, .sentinel, .sentinel, .pinned], laidTests := true, laidLooks := .later }
def FnExactParseLeagueCardSaid : Prop := Claim7.holds Tryd.pinned (.plain (OpenSpec.ofChange fnExactParseLeagueSpec)) fnExactParseLeagueCard

/-- THE SECOND FORM's CARD OF 'laws.FnExactParseKinds'. -/
def fnExactParseKindsUptoCard : Claim7 := { stood := { row := fnExactParseKindsUptoRow, standIns := [], harness := (true, "f8f05a6bbb0ab13176eebb8b838a0d486a2dcc5d658eda6c9516722a5883deaf"), looks := true }, kinds := [], alts := [], laidByText := true, laidKinds := [.data, .data, .data, .data, .sentinel, .sentinel, .pinned], laidTests := true, laidLooks := .later }
def FnExactParseKindsUptoCardSaid : Prop := Claim7.holds Tryd.pinned (.plain (OpenSpec.upto fnExactParseKindsSpec)) fnExactParseKindsUptoCard

/-- THE SECOND FORM's CARD OF 'laws.FnExactParseRace'. -/
def fnExactParseRaceUptoCard : Claim7 := { stood := { row := fnExactParseRaceUptoRow, standIns := [], harness := (true, "f8f05a6bbb0ab13176eebb8b838a0d486a2dcc5d658eda6c9516722a5883deaf"), looks := true }, kinds := [], alts := [], laidByText := true, laidKinds := [.data, .data, .data, .sentinel, .sentinel], laidTests := true, laidLooks := .later }
def FnExactParseRaceUptoCardSaid : Prop := Claim7.holds Tryd.pinned (.plain (OpenSpec.upto fnExactParseRaceSpec)) fnExactParseRaceUptoCard

/-- THE SECOND FORM's CARD OF 'laws.FnExactParseLeague'. -/
def fnExactParseLeagueUptoCard : Claim7 := { stood := { row := fnExactParseLeagueUptoRow, standIns := [], harness := (true, "f8f05a6bbb0ab13176eebb8b838a0d486a2dcc5d658eda6c9516722a5883deaf"), looks := true }, kinds := [], alts := [], laidByText := true, laidKinds := [.data, .data, .data, .data, .sentinel, .sentinel, .pinned], laidTests := true, laidLooks := .later }
def FnExactParseLeagueUptoCardSaid : Prop := Claim7.holds Tryd.pinned (.plain (OpenSpec.upto fnExactParseLeagueSpec)) fnExactParseLeagueUptoCard
end Rows
end Go.Proofs.YtahejnleejiobaaDoor
