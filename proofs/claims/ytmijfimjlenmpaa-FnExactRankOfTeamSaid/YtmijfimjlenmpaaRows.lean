/-
  No cell of these rows narrows 'for every input' (looked for: loops, veiled, ifaces, maps, wideKeys, modest, calm, conditions, laid).
  DERIVED. THE GIVEN ROWS OF THIS SEAT. 5 by the template 'for every input the law returns true; each argument reads behind the call as it read before'; 0 by the template 'total and deterministic' (their statements: YtmijfimjlenmpaaTotals.lean).
  GIVEN WITH THE SEED: the statements are not yours to turn. If you find one false, say at which input.
  Laid BY PROGRAM, IN A SANDBOX (cutbox-rows.mjs): the forced cells as the released guide's own fill.sh prints them over the translation a29d277f10d8557b… (all of the seat's roots in one cut). By AI agents, Wed Nov 11 2026. No macro, syntax, notation, axiom, sorry.
-/
import Derived.Test.YtmijfimjlenmpaaChecked
import GoSem.Claim
import GoSem.ClaimJoined
import GoSem.ClaimMapViews
import Derived.JoinedTies
import Derived.KernelRfl
namespace Go.Proofs.Ytmijfimjlenmpaa
/- THE CELL 'sum', in the pinned program and in every row, IS THE sha256 OF THE DUMP (.gsa) THAT YtmijfimjlenmpaaProg.lean LOADS. Nothing in Lean hashes anything: it is a label: what it is worth is what the hold of that sum in a sandbox is worth. -/
noncomputable def Try.pinned : Pinned := { name := "ytmijfimjlenmpaa", sum := "a29d277f10d8557b385a1d0ac24b4f4cd67a370d7d3d8ed315ec95c839264474", checked := Try.checked }
namespace Rows
def none {H : Type} : Left H := { results := [], args := [] }

/-- 'laws.FnExactMostPoints': WHATEVER THE INPUT: true; the input reads as it did. -/
def fnExactMostPointsSpec : ChangeSpec := { name := "fnExactMostPoints", fn := fun _ => fun
  | [d1, d2] => { results := [.lit (.bool true)], args := [d1, d2] }
  | _ => none }
def fnExactMostPointsRow : OpenClaim := { program := "ytmijfimjlenmpaa", sum := "a29d277f10d8557b385a1d0ac24b4f4cd67a370d7d3d8ed315ec95c839264474", func := "loop.example/g01368/laws.FnExactMostPoints", spec := "fnExactMostPoints", unfollowed := true, recurses := true, plainKeys := false, apart := false }
def FnExactMostPointsSaid : Prop := fnExactMostPointsRow.holds Try.pinned (OpenSpec.ofChange fnExactMostPointsSpec)

/-- ITS FALSE NEIGHBOUR: 'it returns false'. Refute it at one input. -/
def fnExactMostPointsWrong : ChangeSpec := { name := "fnExactMostPoints", fn := fun _ => fun
  | [d1, d2] => { results := [.lit (.bool false)], args := [d1, d2] }
  | _ => none }
def FnExactMostPointsWrongFalsely : Prop := fnExactMostPointsRow.holds Try.pinned (OpenSpec.ofChange fnExactMostPointsWrong)

/-- 'laws.FnExactCountFirsts': WHATEVER THE INPUT: true; the input reads as it did. -/
def fnExactCountFirstsSpec : ChangeSpec := { name := "fnExactCountFirsts", fn := fun _ => fun
  | [d1, d2] => { results := [.lit (.bool true)], args := [d1, d2] }
  | _ => none }
def fnExactCountFirstsRow : OpenClaim := { program := "ytmijfimjlenmpaa", sum := "a29d277f10d8557b385a1d0ac24b4f4cd67a370d7d3d8ed315ec95c839264474", func := "loop.example/g01368/laws.FnExactCountFirsts", spec := "fnExactCountFirsts", unfollowed := true, recurses := true, plainKeys := false, apart := false }
def FnExactCountFirstsSaid : Prop := fnExactCountFirstsRow.holds Try.pinned (OpenSpec.ofChange fnExactCountFirstsSpec)

/-- ITS FALSE NEIGHBOUR: 'it returns false'. Refute it at one input. -/
def fnExactCountFirstsWrong : ChangeSpec := { name := "fnExactCountFirsts", fn := fun _ => fun
  | [d1, d2] => { results := [.lit (.bool false)], args := [d1, d2] }
  | _ => none }
def FnExactCountFirstsWrongFalsely : Prop := fnExactCountFirstsRow.holds Try.pinned (OpenSpec.ofChange fnExactCountFirstsWrong)

/-- 'laws.FnExactCanBeFirst': WHATEVER THE INPUT: true; the input reads as it did. -/
def fnExactCanBeFirstSpec : ChangeSpec := { name := "fnExactCanBeFirst", fn := fun _ => fun
  | [d1, d2] => { results := [.lit (.bool true)], args := [d1, d2] }
  | _ => none }
def fnExactCanBeFirstRow : OpenClaim := { program := "ytmijfimjlenmpaa", sum := "a29d277f10d8557b385a1d0ac24b4f4cd67a370d7d3d8ed315ec95c839264474", func := "loop.example/g01368/laws.FnExactCanBeFirst", spec := "fnExactCanBeFirst", unfollowed := true, recurses := true, plainKeys := false, apart := false }
def FnExactCanBeFirstSaid : Prop := fnExactCanBeFirstRow.holds Try.pinned (OpenSpec.ofChange fnExactCanBeFirstSpec)

/-- ITS FALSE NEIGHBOUR: 'it returns false'. Refute it at one input. -/
def fnExactCanBeFirstWrong : ChangeSpec := { name := "fnExactCanBeFirst", fn := fun _ => fun
  | [d1, d2] => { results := [.lit (.bool false)], args := [d1, d2] }
  | _ => none }
def FnExactCanBeFirstWrongFalsely : Prop := fnExactCanBeFirstRow.holds Try.pinned (OpenSpec.ofChange fnExactCanBeFirstWrong)

/-- 'laws.FnExactRankOfTeam': WHATEVER THE INPUT: true; the input reads as it did. -/
def fnExactRankOfTeamSpec : ChangeSpec := { name := "fnExactRankOfTeam", fn := fun _ => fun
  | [d1, d2] => { results := [.lit (.bool true)], args := [d1, d2] }
  | _ => none }
def fnExactRankOfTeamRow : OpenClaim := { program := "ytmijfimjlenmpaa", sum := "a29d277f10d8557b385a1d0ac24b4f4cd67a370d7d3d8ed315ec95c839264474", func := "loop.example/g01368/laws.FnExactRankOfTeam", spec := "fnExactRankOfTeam", unfollowed := true, recurses := true, plainKeys := false, apart := false }
def FnExactRankOfTeamSaid : Prop := fnExactRankOfTeamRow.holds Try.pinned (OpenSpec.ofChange fnExactRankOfTeamSpec)

/-- ITS FALSE NEIGHBOUR: 'it returns false'. Refute it at one input. -/
def fnExactRankOfTeamWrong : ChangeSpec := { name := "fnExactRankOfTeam", fn := fun _ => fun
  | [d1, d2] => { results := [.lit (.bool false)], args := [d1, d2] }
  | _ => none }
def FnExactRankOfTeamWrongFalsely : Prop := fnExactRankOfTeamRow.holds Try.pinned (OpenSpec.ofChange fnExactRankOfTeamWrong)

/-- 'laws.FnExactLeagueTable': WHATEVER THE INPUT: true; the input reads as it did. -/
def fnExactLeagueTableSpec : ChangeSpec := { name := "fnExactLeagueTable", fn := fun _ => fun
  | [d] => { results := [.lit (.bool true)], args := [d] }
  | _ => none }
def fnExactLeagueTableRow : OpenClaim := { program := "ytmijfimjlenmpaa", sum := "a29d277f10d8557b385a1d0ac24b4f4cd67a370d7d3d8ed315ec95c839264474", func := "loop.example/g01368/laws.FnExactLeagueTable", spec := "fnExactLeagueTable", unfollowed := true, recurses := true, plainKeys := false, apart := false }
def FnExactLeagueTableSaid : Prop := fnExactLeagueTableRow.holds Try.pinned (OpenSpec.ofChange fnExactLeagueTableSpec)

/-- ITS FALSE NEIGHBOUR: 'it returns false'. Refute it at one input. -/
def fnExactLeagueTableWrong : ChangeSpec := { name := "fnExactLeagueTable", fn := fun _ => fun
  | [d] => { results := [.lit (.bool false)], args := [d] }
  | _ => none }
def FnExactLeagueTableWrongFalsely : Prop := fnExactLeagueTableRow.holds Try.pinned (OpenSpec.ofChange fnExactLeagueTableWrong)

/- THE SECOND FORM. 'bulk': how many values and letters a reading holds, each counted each time it is reached (what is shared counts as often as it is met; a slice's spare places count too). A statement '..UptoSaid' is the law's where the arguments, and the package variables that the reading takes, are together of bulk at most 1048576: NARROWER than '..Said'. Prove '..Said' where nothing that the law and all that it calls make is longer than what came in: it says more and counts as full. Else prove '..UptoSaid'. A law counts once. -/
mutual
def uptoBulk {H : Type} : DataW H → Nat
  | .lit (.string bytes) => bytes.length + 1
  | .lit _ => 1
  | .nil => 1
  | .ptr d => uptoBulk d + 1
  | .slice elems spare => uptoBulkAll elems + uptoBulkAll spare + 1
  | .agg parts => uptoBulkAll parts + 1
  | .iface _ d => uptoBulk d + 1
  | .map entries => uptoBulkEntries entries + 1
  | .held _ => 1
def uptoBulkAll {H : Type} : List (DataW H) → Nat
  | [] => 0
  | d :: r => uptoBulk d + uptoBulkAll r
def uptoBulkEntries {H : Type} : List (Lit × DataW H) → Nat
  | [] => 0
  | x :: r => uptoBulkEntry x + uptoBulkEntries r
def uptoBulkEntry {H : Type} : Lit × DataW H → Nat
  | (.string bytes, d) => bytes.length + uptoBulk d + 1
  | (_, d) => uptoBulk d + 1
 end
def uptoSmall : (H : Type) → List (DataW H) → Bool := fun _ ds => decide (uptoBulkAll ds ≤ 1048576)
def OpenSpec.upto (s : _root_.Go.ChangeSpec) : _root_.Go.OpenSpec := { _root_.Go.OpenSpec.ofChange s with cond := some uptoSmall }

/-- 'laws.FnExactMostPoints', WHERE WHAT IT READS IS OF BULK AT MOST 1048576: true; the input reads as it did. -/
def fnExactMostPointsUptoRow : OpenClaim := { program := "ytmijfimjlenmpaa", sum := "a29d277f10d8557b385a1d0ac24b4f4cd67a370d7d3d8ed315ec95c839264474", func := "loop.example/g01368/laws.FnExactMostPoints", spec := "fnExactMostPoints", unfollowed := true, recurses := true, plainKeys := false, apart := false, narrowed := true }
def FnExactMostPointsUptoSaid : Prop := fnExactMostPointsUptoRow.holds Try.pinned (OpenSpec.upto fnExactMostPointsSpec)

/-- 'laws.FnExactCountFirsts', WHERE WHAT IT READS IS OF BULK AT MOST 1048576: true; the input reads as it did. -/
def fnExactCountFirstsUptoRow : OpenClaim := { program := "ytmijfimjlenmpaa", sum := "a29d277f10d8557b385a1d0ac24b4f4cd67a370d7d3d8ed315ec95c839264474", func := "loop.example/g01368/laws.FnExactCountFirsts", spec := "fnExactCountFirsts", unfollowed := true, recurses := true, plainKeys := false, apart := false, narrowed := true }
def FnExactCountFirstsUptoSaid : Prop := fnExactCountFirstsUptoRow.holds Try.pinned (OpenSpec.upto fnExactCountFirstsSpec)

/-- 'laws.FnExactCanBeFirst', WHERE WHAT IT READS IS OF BULK AT MOST 1048576: true; the input reads as it did. -/
def fnExactCanBeFirstUptoRow : OpenClaim := { program := "ytmijfimjlenmpaa", sum := "a29d277f10d8557b385a1d0ac24b4f4cd67a370d7d3d8ed315ec95c839264474", func := "loop.example/g01368/laws.FnExactCanBeFirst", spec := "fnExactCanBeFirst", unfollowed := true, recurses := true, plainKeys := false, apart := false, narrowed := true }
def FnExactCanBeFirstUptoSaid : Prop := fnExactCanBeFirstUptoRow.holds Try.pinned (OpenSpec.upto fnExactCanBeFirstSpec)

/-- 'laws.FnExactRankOfTeam', WHERE WHAT IT READS IS OF BULK AT MOST 1048576: true; the input reads as it did. -/
def fnExactRankOfTeamUptoRow : OpenClaim := { program := "ytmijfimjlenmpaa", sum := "a29d277f10d8557b385a1d0ac24b4f4cd67a370d7d3d8ed315ec95c839264474", func := "loop.example/g01368/laws.FnExactRankOfTeam", spec := "fnExactRankOfTeam", unfollowed := true, recurses := true, plainKeys := false, apart := false, narrowed := true }
def FnExactRankOfTeamUptoSaid : Prop := fnExactRankOfTeamUptoRow.holds Try.pinned (OpenSpec.upto fnExactRankOfTeamSpec)

/-- 'laws.FnExactLeagueTable', WHERE WHAT IT READS IS OF BULK AT MOST 1048576: true; the input reads as it did. -/
def fnExactLeagueTableUptoRow : OpenClaim := { program := "ytmijfimjlenmpaa", sum := "a29d277f10d8557b385a1d0ac24b4f4cd67a370d7d3d8ed315ec95c839264474", func := "loop.example/g01368/laws.FnExactLeagueTable", spec := "fnExactLeagueTable", unfollowed := true, recurses := true, plainKeys := false, apart := false, narrowed := true }
def FnExactLeagueTableUptoSaid : Prop := fnExactLeagueTableUptoRow.holds Try.pinned (OpenSpec.upto fnExactLeagueTableSpec)

end Rows
end Go.Proofs.Ytmijfimjlenmpaa
