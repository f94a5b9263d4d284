/-
  No cell of these rows narrows 'for every input' (looked for: loops, veiled, ifaces, maps, wideKeys, modest, calm, conditions, laid).
  DERIVED. THE GIVEN ROWS OF THIS SEAT. 12 by the template 'for every input the law returns true; each argument reads behind the call as it read before'; 0 by the template 'total and deterministic' (their statements: YtolcneiniojdfaaTotals.lean).
  GIVEN WITH THE SEED: the statements are not yours to turn. If you find one false, say at which input.
  Laid BY PROGRAM, IN A SANDBOX (cutbox-rows.mjs): the forced cells as the released guide's own fill.sh prints them over the translation 118dabef19d5b031… (all of the seat's roots in one cut). By AI agents, Wed Nov 11 2026. No macro, syntax, notation, axiom, sorry.
-/
import Derived.Test.YtolcneiniojdfaaChecked
import GoSem.Claim
import GoSem.ClaimJoined
import GoSem.ClaimMapViews
import Derived.JoinedTies
import Derived.KernelRfl
namespace Go.Proofs.Ytolcneiniojdfaa
/- THE CELL 'sum', in the pinned program and in every row, IS THE sha256 OF THE DUMP (.gsa) THAT YtolcneiniojdfaaProg.lean LOADS. Nothing in Lean hashes anything: it is a label: what it is worth is what the hold of that sum in a sandbox is worth. -/
noncomputable def Try.pinned : Pinned := { name := "ytolcneiniojdfaa", sum := "118dabef19d5b03129d540a39c359ba7ad7edf0f63540897f294fa295f1081b0", checked := Try.checked }
namespace Rows
def none {H : Type} : Left H := { results := [], args := [] }

/-- 'laws.FnExactRoundsFor': WHATEVER THE INPUT: true; the input reads as it did. -/
def fnExactRoundsForSpec : ChangeSpec := { name := "fnExactRoundsFor", fn := fun _ => fun
  | [d] => { results := [.lit (.bool true)], args := [d] }
  | _ => none }
def fnExactRoundsForRow : OpenClaim := { program := "ytolcneiniojdfaa", sum := "118dabef19d5b03129d540a39c359ba7ad7edf0f63540897f294fa295f1081b0", func := "loop.example/g01368/laws.FnExactRoundsFor", spec := "fnExactRoundsFor", plainKeys := false, apart := false }
def FnExactRoundsForSaid : Prop := fnExactRoundsForRow.holds Try.pinned (OpenSpec.ofChange fnExactRoundsForSpec)

/-- ITS FALSE NEIGHBOUR: 'it returns false'. Refute it at one input. -/
def fnExactRoundsForWrong : ChangeSpec := { name := "fnExactRoundsFor", fn := fun _ => fun
  | [d] => { results := [.lit (.bool false)], args := [d] }
  | _ => none }
def FnExactRoundsForWrongFalsely : Prop := fnExactRoundsForRow.holds Try.pinned (OpenSpec.ofChange fnExactRoundsForWrong)

/-- 'laws.FnExactIsLeague': WHATEVER THE INPUT: true; the input reads as it did. -/
def fnExactIsLeagueSpec : ChangeSpec := { name := "fnExactIsLeague", fn := fun _ => fun
  | [d] => { results := [.lit (.bool true)], args := [d] }
  | _ => none }
def fnExactIsLeagueRow : OpenClaim := { program := "ytolcneiniojdfaa", sum := "118dabef19d5b03129d540a39c359ba7ad7edf0f63540897f294fa295f1081b0", func := "loop.example/g01368/laws.FnExactIsLeague", spec := "fnExactIsLeague", plainKeys := false, apart := false }
def FnExactIsLeagueSaid : Prop := fnExactIsLeagueRow.holds Try.pinned (OpenSpec.ofChange fnExactIsLeagueSpec)

/-- ITS FALSE NEIGHBOUR: 'it returns false'. Refute it at one input. -/
def fnExactIsLeagueWrong : ChangeSpec := { name := "fnExactIsLeague", fn := fun _ => fun
  | [d] => { results := [.lit (.bool false)], args := [d] }
  | _ => none }
def FnExactIsLeagueWrongFalsely : Prop := fnExactIsLeagueRow.holds Try.pinned (OpenSpec.ofChange fnExactIsLeagueWrong)

/-- 'laws.FnExactDirectPoints': WHATEVER THE INPUT: true; the input reads as it did. -/
def fnExactDirectPointsSpec : ChangeSpec := { name := "fnExactDirectPoints", fn := fun _ => fun
  | [d1, d2, d3] => { results := [.lit (.bool true)], args := [d1, d2, d3] }
  | _ => none }
def fnExactDirectPointsRow : OpenClaim := { program := "ytolcneiniojdfaa", sum := "118dabef19d5b03129d540a39c359ba7ad7edf0f63540897f294fa295f1081b0", func := "loop.example/g01368/laws.FnExactDirectPoints", spec := "fnExactDirectPoints", plainKeys := false, apart := false }
def FnExactDirectPointsSaid : Prop := fnExactDirectPointsRow.holds Try.pinned (OpenSpec.ofChange fnExactDirectPointsSpec)

/-- ITS FALSE NEIGHBOUR: 'it returns false'. Refute it at one input. -/
def fnExactDirectPointsWrong : ChangeSpec := { name := "fnExactDirectPoints", fn := fun _ => fun
  | [d1, d2, d3] => { results := [.lit (.bool false)], args := [d1, d2, d3] }
  | _ => none }
def FnExactDirectPointsWrongFalsely : Prop := fnExactDirectPointsRow.holds Try.pinned (OpenSpec.ofChange fnExactDirectPointsWrong)

/-- 'laws.FnExactWonDrawnLost': WHATEVER THE INPUT: true; the input reads as it did. -/
def fnExactWonDrawnLostSpec : ChangeSpec := { name := "fnExactWonDrawnLost", fn := fun _ => fun
  | [d1, d2] => { results := [.lit (.bool true)], args := [d1, d2] }
  | _ => none }
def fnExactWonDrawnLostRow : OpenClaim := { program := "ytolcneiniojdfaa", sum := "118dabef19d5b03129d540a39c359ba7ad7edf0f63540897f294fa295f1081b0", func := "loop.example/g01368/laws.FnExactWonDrawnLost", spec := "fnExactWonDrawnLost", plainKeys := false, apart := false }
def FnExactWonDrawnLostSaid : Prop := fnExactWonDrawnLostRow.holds Try.pinned (OpenSpec.ofChange fnExactWonDrawnLostSpec)

/-- ITS FALSE NEIGHBOUR: 'it returns false'. Refute it at one input. -/
def fnExactWonDrawnLostWrong : ChangeSpec := { name := "fnExactWonDrawnLost", fn := fun _ => fun
  | [d1, d2] => { results := [.lit (.bool false)], args := [d1, d2] }
  | _ => none }
def FnExactWonDrawnLostWrongFalsely : Prop := fnExactWonDrawnLostRow.holds Try.pinned (OpenSpec.ofChange fnExactWonDrawnLostWrong)

/-- 'laws.FnExactLongestUnbeaten': WHATEVER THE INPUT: true; the input reads as it did. -/
def fnExactLongestUnbeatenSpec : ChangeSpec := { name := "fnExactLongestUnbeaten", fn := fun _ => fun
  | [d1, d2] => { results := [.lit (.bool true)], args := [d1, d2] }
  | _ => none }
def fnExactLongestUnbeatenRow : OpenClaim := { program := "ytolcneiniojdfaa", sum := "118dabef19d5b03129d540a39c359ba7ad7edf0f63540897f294fa295f1081b0", func := "loop.example/g01368/laws.FnExactLongestUnbeaten", spec := "fnExactLongestUnbeaten", plainKeys := false, apart := false }
def FnExactLongestUnbeatenSaid : Prop := fnExactLongestUnbeatenRow.holds Try.pinned (OpenSpec.ofChange fnExactLongestUnbeatenSpec)

/-- ITS FALSE NEIGHBOUR: 'it returns false'. Refute it at one input. -/
def fnExactLongestUnbeatenWrong : ChangeSpec := { name := "fnExactLongestUnbeaten", fn := fun _ => fun
  | [d1, d2] => { results := [.lit (.bool false)], args := [d1, d2] }
  | _ => none }
def FnExactLongestUnbeatenWrongFalsely : Prop := fnExactLongestUnbeatenRow.holds Try.pinned (OpenSpec.ofChange fnExactLongestUnbeatenWrong)

/-- 'laws.FnExactAddResult': WHATEVER THE INPUT: true; the input reads as it did. -/
def fnExactAddResultSpec : ChangeSpec := { name := "fnExactAddResult", fn := fun _ => fun
  | [d1, d2] => { results := [.lit (.bool true)], args := [d1, d2] }
  | _ => none }
def fnExactAddResultRow : OpenClaim := { program := "ytolcneiniojdfaa", sum := "118dabef19d5b03129d540a39c359ba7ad7edf0f63540897f294fa295f1081b0", func := "loop.example/g01368/laws.FnExactAddResult", spec := "fnExactAddResult", plainKeys := false, apart := false }
def FnExactAddResultSaid : Prop := fnExactAddResultRow.holds Try.pinned (OpenSpec.ofChange fnExactAddResultSpec)

/-- ITS FALSE NEIGHBOUR: 'it returns false'. Refute it at one input. -/
def fnExactAddResultWrong : ChangeSpec := { name := "fnExactAddResult", fn := fun _ => fun
  | [d1, d2] => { results := [.lit (.bool false)], args := [d1, d2] }
  | _ => none }
def FnExactAddResultWrongFalsely : Prop := fnExactAddResultRow.holds Try.pinned (OpenSpec.ofChange fnExactAddResultWrong)

/-- 'laws.FnExactTurnResults': WHATEVER THE INPUT: true; the input reads as it did. -/
def fnExactTurnResultsSpec : ChangeSpec := { name := "fnExactTurnResults", fn := fun _ => fun
  | [d] => { results := [.lit (.bool true)], args := [d] }
  | _ => none }
def fnExactTurnResultsRow : OpenClaim := { program := "ytolcneiniojdfaa", sum := "118dabef19d5b03129d540a39c359ba7ad7edf0f63540897f294fa295f1081b0", func := "loop.example/g01368/laws.FnExactTurnResults", spec := "fnExactTurnResults", plainKeys := false, apart := false }
def FnExactTurnResultsSaid : Prop := fnExactTurnResultsRow.holds Try.pinned (OpenSpec.ofChange fnExactTurnResultsSpec)

/-- ITS FALSE NEIGHBOUR: 'it returns false'. Refute it at one input. -/
def fnExactTurnResultsWrong : ChangeSpec := { name := "fnExactTurnResults", fn := fun _ => fun
  | [d] => { results := [.lit (.bool false)], args := [d] }
  | _ => none }
def FnExactTurnResultsWrongFalsely : Prop := fnExactTurnResultsRow.holds Try.pinned (OpenSpec.ofChange fnExactTurnResultsWrong)

/-- 'laws.FnExactDropResult': WHATEVER THE INPUT: true; the input reads as it did. -/
def fnExactDropResultSpec : ChangeSpec := { name := "fnExactDropResult", fn := fun _ => fun
  | [d1, d2] => { results := [.lit (.bool true)], args := [d1, d2] }
  | _ => none }
def fnExactDropResultRow : OpenClaim := { program := "ytolcneiniojdfaa", sum := "118dabef19d5b03129d540a39c359ba7ad7edf0f63540897f294fa295f1081b0", func := "loop.example/g01368/laws.FnExactDropResult", spec := "fnExactDropResult", plainKeys := false, apart := false }
def FnExactDropResultSaid : Prop := fnExactDropResultRow.holds Try.pinned (OpenSpec.ofChange fnExactDropResultSpec)

/-- ITS FALSE NEIGHBOUR: 'it returns false'. Refute it at one input. -/
def fnExactDropResultWrong : ChangeSpec := { name := "fnExactDropResult", fn := fun _ => fun
  | [d1, d2] => { results := [.lit (.bool false)], args := [d1, d2] }
  | _ => none }
def FnExactDropResultWrongFalsely : Prop := fnExactDropResultRow.holds Try.pinned (OpenSpec.ofChange fnExactDropResultWrong)

/-- 'laws.FnExactFirstRing': WHATEVER THE INPUT: true; the input reads as it did. -/
def fnExactFirstRingSpec : ChangeSpec := { name := "fnExactFirstRing", fn := fun _ => fun
  | [d] => { results := [.lit (.bool true)], args := [d] }
  | _ => none }
def fnExactFirstRingRow : OpenClaim := { program := "ytolcneiniojdfaa", sum := "118dabef19d5b03129d540a39c359ba7ad7edf0f63540897f294fa295f1081b0", func := "loop.example/g01368/laws.FnExactFirstRing", spec := "fnExactFirstRing", plainKeys := false, apart := false }
def FnExactFirstRingSaid : Prop := fnExactFirstRingRow.holds Try.pinned (OpenSpec.ofChange fnExactFirstRingSpec)

/-- ITS FALSE NEIGHBOUR: 'it returns false'. Refute it at one input. -/
def fnExactFirstRingWrong : ChangeSpec := { name := "fnExactFirstRing", fn := fun _ => fun
  | [d] => { results := [.lit (.bool false)], args := [d] }
  | _ => none }
def FnExactFirstRingWrongFalsely : Prop := fnExactFirstRingRow.holds Try.pinned (OpenSpec.ofChange fnExactFirstRingWrong)

/-- 'laws.FnExactLeaguePoints': WHATEVER THE INPUT: true; the input reads as it did. -/
def fnExactLeaguePointsSpec : ChangeSpec := { name := "fnExactLeaguePoints", fn := fun _ => fun
  | [d] => { results := [.lit (.bool true)], args := [d] }
  | _ => none }
def fnExactLeaguePointsRow : OpenClaim := { program := "ytolcneiniojdfaa", sum := "118dabef19d5b03129d540a39c359ba7ad7edf0f63540897f294fa295f1081b0", func := "loop.example/g01368/laws.FnExactLeaguePoints", spec := "fnExactLeaguePoints", plainKeys := false, apart := false }
def FnExactLeaguePointsSaid : Prop := fnExactLeaguePointsRow.holds Try.pinned (OpenSpec.ofChange fnExactLeaguePointsSpec)

/-- ITS FALSE NEIGHBOUR: 'it returns false'. Refute it at one input. -/
def fnExactLeaguePointsWrong : ChangeSpec := { name := "fnExactLeaguePoints", fn := fun _ => fun
  | [d] => { results := [.lit (.bool false)], args := [d] }
  | _ => none }
def FnExactLeaguePointsWrongFalsely : Prop := fnExactLeaguePointsRow.holds Try.pinned (OpenSpec.ofChange fnExactLeaguePointsWrong)

/-- 'laws.FnExactGoalsOfTeams': WHATEVER THE INPUT: true; the input reads as it did. -/
def fnExactGoalsOfTeamsSpec : ChangeSpec := { name := "fnExactGoalsOfTeams", fn := fun _ => fun
  | [d] => { results := [.lit (.bool true)], args := [d] }
  | _ => none }
def fnExactGoalsOfTeamsRow : OpenClaim := { program := "ytolcneiniojdfaa", sum := "118dabef19d5b03129d540a39c359ba7ad7edf0f63540897f294fa295f1081b0", func := "loop.example/g01368/laws.FnExactGoalsOfTeams", spec := "fnExactGoalsOfTeams", plainKeys := false, apart := false }
def FnExactGoalsOfTeamsSaid : Prop := fnExactGoalsOfTeamsRow.holds Try.pinned (OpenSpec.ofChange fnExactGoalsOfTeamsSpec)

/-- ITS FALSE NEIGHBOUR: 'it returns false'. Refute it at one input. -/
def fnExactGoalsOfTeamsWrong : ChangeSpec := { name := "fnExactGoalsOfTeams", fn := fun _ => fun
  | [d] => { results := [.lit (.bool false)], args := [d] }
  | _ => none }
def FnExactGoalsOfTeamsWrongFalsely : Prop := fnExactGoalsOfTeamsRow.holds Try.pinned (OpenSpec.ofChange fnExactGoalsOfTeamsWrong)

/-- 'laws.FnExactLeftResults': WHATEVER THE INPUT: true; the input reads as it did. -/
def fnExactLeftResultsSpec : ChangeSpec := { name := "fnExactLeftResults", fn := fun _ => fun
  | [d] => { results := [.lit (.bool true)], args := [d] }
  | _ => none }
def fnExactLeftResultsRow : OpenClaim := { program := "ytolcneiniojdfaa", sum := "118dabef19d5b03129d540a39c359ba7ad7edf0f63540897f294fa295f1081b0", func := "loop.example/g01368/laws.FnExactLeftResults", spec := "fnExactLeftResults", unfollowed := true, recurses := true, plainKeys := false, apart := false }
def FnExactLeftResultsSaid : Prop := fnExactLeftResultsRow.holds Try.pinned (OpenSpec.ofChange fnExactLeftResultsSpec)

/-- ITS FALSE NEIGHBOUR: 'it returns false'. Refute it at one input. -/
def fnExactLeftResultsWrong : ChangeSpec := { name := "fnExactLeftResults", fn := fun _ => fun
  | [d] => { results := [.lit (.bool false)], args := [d] }
  | _ => none }
def FnExactLeftResultsWrongFalsely : Prop := fnExactLeftResultsRow.holds Try.pinned (OpenSpec.ofChange fnExactLeftResultsWrong)

/- THE SECOND FORM. 'bulk': how many values and letters a reading holds, each counted each time it is reached (what is shared counts as often as it is met; a slice's spare places count too). A statement '..UptoSaid' is the law's where the arguments, and the package variables that the reading takes, are together of bulk at most 1048576: NARROWER than '..Said'. Prove '..Said' where nothing that the law and all that it calls make is longer than what came in: it says more and counts as full. Else prove '..UptoSaid'. A law counts once. -/
mutual
def uptoBulk {H : Type} : DataW H → Nat
  | .lit (.string bytes) => bytes.length + 1
  | .lit _ => 1
  | .nil => 1
  | .ptr d => uptoBulk d + 1
  | .slice elems spare => uptoBulkAll elems + uptoBulkAll spare + 1
  | .agg parts => uptoBulkAll parts + 1
  | .iface _ d => uptoBulk d + 1
  | .map entries => uptoBulkEntries entries + 1
  | .held _ => 1
def uptoBulkAll {H : Type} : List (DataW H) → Nat
  | [] => 0
  | d :: r => uptoBulk d + uptoBulkAll r
def uptoBulkEntries {H : Type} : List (Lit × DataW H) → Nat
  | [] => 0
  | x :: r => uptoBulkEntry x + uptoBulkEntries r
def uptoBulkEntry {H : Type} : Lit × DataW H → Nat
  | (.string bytes, d) => bytes.length + uptoBulk d + 1
  | (_, d) => uptoBulk d + 1
 end
def uptoSmall : (H : Type) → List (DataW H) → Bool := fun _ ds => decide (uptoBulkAll ds ≤ 1048576)
def OpenSpec.upto (s : _root_.Go.ChangeSpec) : _root_.Go.OpenSpec := { _root_.Go.OpenSpec.ofChange s with cond := some uptoSmall }

/-- 'laws.FnExactRoundsFor', WHERE WHAT IT READS IS OF BULK AT MOST 1048576: true; the input reads as it did. -/
def fnExactRoundsForUptoRow : OpenClaim := { program := "ytolcneiniojdfaa", sum := "118dabef19d5b03129d540a39c359ba7ad7edf0f63540897f294fa295f1081b0", func := "loop.example/g01368/laws.FnExactRoundsFor", spec := "fnExactRoundsFor", plainKeys := false, apart := false, narrowed := true }
def FnExactRoundsForUptoSaid : Prop := fnExactRoundsForUptoRow.holds Try.pinned (OpenSpec.upto fnExactRoundsForSpec)

/-- 'laws.FnExactIsLeague', WHERE WHAT IT READS IS OF BULK AT MOST 1048576: true; the input reads as it did. -/
def fnExactIsLeagueUptoRow : OpenClaim := { program := "ytolcneiniojdfaa", sum := "118dabef19d5b03129d540a39c359ba7ad7edf0f63540897f294fa295f1081b0", func := "loop.example/g01368/laws.FnExactIsLeague", spec := "fnExactIsLeague", plainKeys := false, apart := false, narrowed := true }
def FnExactIsLeagueUptoSaid : Prop := fnExactIsLeagueUptoRow.holds Try.pinned (OpenSpec.upto fnExactIsLeagueSpec)

/-- 'laws.FnExactDirectPoints', WHERE WHAT IT READS IS OF BULK AT MOST 1048576: true; the input reads as it did. -/
def fnExactDirectPointsUptoRow : OpenClaim := { program := "ytolcneiniojdfaa", sum := "118dabef19d5b03129d540a39c359ba7ad7edf0f63540897f294fa295f1081b0", func := "loop.example/g01368/laws.FnExactDirectPoints", spec := "fnExactDirectPoints", plainKeys := false, apart := false, narrowed := true }
def FnExactDirectPointsUptoSaid : Prop := fnExactDirectPointsUptoRow.holds Try.pinned (OpenSpec.upto fnExactDirectPointsSpec)

/-- 'laws.FnExactWonDrawnLost', WHERE WHAT IT READS IS OF BULK AT MOST 1048576: true; the input reads as it did. -/
def fnExactWonDrawnLostUptoRow : OpenClaim := { program := "ytolcneiniojdfaa", sum := "118dabef19d5b03129d540a39c359ba7ad7edf0f63540897f294fa295f1081b0", func := "loop.example/g01368/laws.FnExactWonDrawnLost", spec := "fnExactWonDrawnLost", plainKeys := false, apart := false, narrowed := true }
def FnExactWonDrawnLostUptoSaid : Prop := fnExactWonDrawnLostUptoRow.holds Try.pinned (OpenSpec.upto fnExactWonDrawnLostSpec)

/-- 'laws.FnExactLongestUnbeaten', WHERE WHAT IT READS IS OF BULK AT MOST 1048576: true; the input reads as it did. -/
def fnExactLongestUnbeatenUptoRow : OpenClaim := { program := "ytolcneiniojdfaa", sum := "118dabef19d5b03129d540a39c359ba7ad7edf0f63540897f294fa295f1081b0", func := "loop.example/g01368/laws.FnExactLongestUnbeaten", spec := "fnExactLongestUnbeaten", plainKeys := false, apart := false, narrowed := true }
def FnExactLongestUnbeatenUptoSaid : Prop := fnExactLongestUnbeatenUptoRow.holds Try.pinned (OpenSpec.upto fnExactLongestUnbeatenSpec)

/-- 'laws.FnExactAddResult', WHERE WHAT IT READS IS OF BULK AT MOST 1048576: true; the input reads as it did. -/
def fnExactAddResultUptoRow : OpenClaim := { program := "ytolcneiniojdfaa", sum := "118dabef19d5b03129d540a39c359ba7ad7edf0f63540897f294fa295f1081b0", func := "loop.example/g01368/laws.FnExactAddResult", spec := "fnExactAddResult", plainKeys := false, apart := false, narrowed := true }
def FnExactAddResultUptoSaid : Prop := fnExactAddResultUptoRow.holds Try.pinned (OpenSpec.upto fnExactAddResultSpec)

/-- 'laws.FnExactTurnResults', WHERE WHAT IT READS IS OF BULK AT MOST 1048576: true; the input reads as it did. -/
def fnExactTurnResultsUptoRow : OpenClaim := { program := "ytolcneiniojdfaa", sum := "118dabef19d5b03129d540a39c359ba7ad7edf0f63540897f294fa295f1081b0", func := "loop.example/g01368/laws.FnExactTurnResults", spec := "fnExactTurnResults", plainKeys := false, apart := false, narrowed := true }
def FnExactTurnResultsUptoSaid : Prop := fnExactTurnResultsUptoRow.holds Try.pinned (OpenSpec.upto fnExactTurnResultsSpec)

/-- 'laws.FnExactDropResult', WHERE WHAT IT READS IS OF BULK AT MOST 1048576: true; the input reads as it did. -/
def fnExactDropResultUptoRow : OpenClaim := { program := "ytolcneiniojdfaa", sum := "118dabef19d5b03129d540a39c359ba7ad7edf0f63540897f294fa295f1081b0", func := "loop.example/g01368/laws.FnExactDropResult", spec := "fnExactDropResult", plainKeys := false, apart := false, narrowed := true }
def FnExactDropResultUptoSaid : Prop := fnExactDropResultUptoRow.holds Try.pinned (OpenSpec.upto fnExactDropResultSpec)

/-- 'laws.FnExactFirstRing', WHERE WHAT IT READS IS OF BULK AT MOST 1048576: true; the input reads as it did. -/
def fnExactFirstRingUptoRow : OpenClaim := { program := "ytolcneiniojdfaa", sum := "118dabef19d5b03129d540a39c359ba7ad7edf0f63540897f294fa295f1081b0", func := "loop.example/g01368/laws.FnExactFirstRing", spec := "fnExactFirstRing", plainKeys := false, apart := false, narrowed := true }
def FnExactFirstRingUptoSaid : Prop := fnExactFirstRingUptoRow.holds Try.pinned (OpenSpec.upto fnExactFirstRingSpec)

/-- 'laws.FnExactLeaguePoints', WHERE WHAT IT READS IS OF BULK AT MOST 1048576: true; the input reads as it did. -/
def fnExactLeaguePointsUptoRow : OpenClaim := { program := "ytolcneiniojdfaa", sum := "118dabef19d5b03129d540a39c359ba7ad7edf0f63540897f294fa295f1081b0", func := "loop.example/g01368/laws.FnExactLeaguePoints", spec := "fnExactLeaguePoints", plainKeys := false, apart := false, narrowed := true }
def FnExactLeaguePointsUptoSaid : Prop := fnExactLeaguePointsUptoRow.holds Try.pinned (OpenSpec.upto fnExactLeaguePointsSpec)

/-- 'laws.FnExactGoalsOfTeams', WHERE WHAT IT READS IS OF BULK AT MOST 1048576: true; the input reads as it did. -/
def fnExactGoalsOfTeamsUptoRow : OpenClaim := { program := "ytolcneiniojdfaa", sum := "118dabef19d5b03129d540a39c359ba7ad7edf0f63540897f294fa295f1081b0", func := "loop.example/g01368/laws.FnExactGoalsOfTeams", spec := "fnExactGoalsOfTeams", plainKeys := false, apart := false, narrowed := true }
def FnExactGoalsOfTeamsUptoSaid : Prop := fnExactGoalsOfTeamsUptoRow.holds Try.pinned (OpenSpec.upto fnExactGoalsOfTeamsSpec)

/-- 'laws.FnExactLeftResults', WHERE WHAT IT READS IS OF BULK AT MOST 1048576: true; the input reads as it did. -/
def fnExactLeftResultsUptoRow : OpenClaim := { program := "ytolcneiniojdfaa", sum := "118dabef19d5b03129d540a39c359ba7ad7edf0f63540897f294fa295f1081b0", func := "loop.example/g01368/laws.FnExactLeftResults", spec := "fnExactLeftResults", unfollowed := true, recurses := true, plainKeys := false, apart := false, narrowed := true }
def FnExactLeftResultsUptoSaid : Prop := fnExactLeftResultsUptoRow.holds Try.pinned (OpenSpec.upto fnExactLeftResultsSpec)

end Rows
end Go.Proofs.Ytolcneiniojdfaa
