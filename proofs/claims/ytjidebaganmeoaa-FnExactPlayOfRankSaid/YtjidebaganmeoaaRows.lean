/-
  No cell of these rows narrows 'for every input' (looked for: loops, veiled, ifaces, maps, wideKeys, modest, calm, conditions, laid).
  DERIVED. THE GIVEN ROWS OF THIS SEAT. 9 by the template 'for every input the law returns true; each argument reads behind the call as it read before'; 0 by the template 'total and deterministic' (their statements: YtjidebaganmeoaaTotals.lean).
  GIVEN WITH THE SEED: the statements are not yours to turn. If you find one false, say at which input.
  Laid BY PROGRAM, IN A SANDBOX (cutbox-rows.mjs): the forced cells as the released guide's own fill.sh prints them over the translation 8a662f09e7d750a9… (all of the seat's roots in one cut). By AI agents, Wed Nov 11 2026. No macro, syntax, notation, axiom, sorry.
-/
import Derived.Test.YtjidebaganmeoaaChecked
import GoSem.Claim
import GoSem.ClaimJoined
import GoSem.ClaimMapViews
import Derived.JoinedTies
import Derived.KernelRfl
namespace Go.Proofs.Ytjidebaganmeoaa
/- THE CELL 'sum', in the pinned program and in every row, IS THE sha256 OF THE DUMP (.gsa) THAT YtjidebaganmeoaaProg.lean LOADS. Nothing in Lean hashes anything: it is a label: what it is worth is what the hold of that sum in a sandbox is worth. -/
noncomputable def Try.pinned : Pinned := { name := "ytjidebaganmeoaa", sum := "8a662f09e7d750a99f7d30bb6e49d5fcb2dc656c771002a6194cc0afbb20d2c7", checked := Try.checked }
namespace Rows
def none {H : Type} : Left H := { results := [], args := [] }

/-- 'laws.FnExactAreOdds': WHATEVER THE INPUT: true; the input reads as it did. -/
def fnExactAreOddsSpec : ChangeSpec := { name := "fnExactAreOdds", fn := fun _ => fun
  | [d] => { results := [.lit (.bool true)], args := [d] }
  | _ => none }
def fnExactAreOddsRow : OpenClaim := { program := "ytjidebaganmeoaa", sum := "8a662f09e7d750a99f7d30bb6e49d5fcb2dc656c771002a6194cc0afbb20d2c7", func := "loop.example/g01368/laws.FnExactAreOdds", spec := "fnExactAreOdds", apart := false }
def FnExactAreOddsSaid : Prop := fnExactAreOddsRow.holds Try.pinned (OpenSpec.ofChange fnExactAreOddsSpec)

/-- ITS FALSE NEIGHBOUR: 'it returns false'. Refute it at one input. -/
def fnExactAreOddsWrong : ChangeSpec := { name := "fnExactAreOdds", fn := fun _ => fun
  | [d] => { results := [.lit (.bool false)], args := [d] }
  | _ => none }
def FnExactAreOddsWrongFalsely : Prop := fnExactAreOddsRow.holds Try.pinned (OpenSpec.ofChange fnExactAreOddsWrong)

/-- 'laws.FnExactIsRace': WHATEVER THE INPUT: true; the input reads as it did. -/
def fnExactIsRaceSpec : ChangeSpec := { name := "fnExactIsRace", fn := fun _ => fun
  | [d] => { results := [.lit (.bool true)], args := [d] }
  | _ => none }
def fnExactIsRaceRow : OpenClaim := { program := "ytjidebaganmeoaa", sum := "8a662f09e7d750a99f7d30bb6e49d5fcb2dc656c771002a6194cc0afbb20d2c7", func := "loop.example/g01368/laws.FnExactIsRace", spec := "fnExactIsRace", apart := false }
def FnExactIsRaceSaid : Prop := fnExactIsRaceRow.holds Try.pinned (OpenSpec.ofChange fnExactIsRaceSpec)

/-- ITS FALSE NEIGHBOUR: 'it returns false'. Refute it at one input. -/
def fnExactIsRaceWrong : ChangeSpec := { name := "fnExactIsRace", fn := fun _ => fun
  | [d] => { results := [.lit (.bool false)], args := [d] }
  | _ => none }
def FnExactIsRaceWrongFalsely : Prop := fnExactIsRaceRow.holds Try.pinned (OpenSpec.ofChange fnExactIsRaceWrong)

/-- 'laws.FnExactOtherOdds': WHATEVER THE INPUT: true; the input reads as it did. -/
def fnExactOtherOddsSpec : ChangeSpec := { name := "fnExactOtherOdds", fn := fun _ => fun
  | [d] => { results := [.lit (.bool true)], args := [d] }
  | _ => none }
def fnExactOtherOddsRow : OpenClaim := { program := "ytjidebaganmeoaa", sum := "8a662f09e7d750a99f7d30bb6e49d5fcb2dc656c771002a6194cc0afbb20d2c7", func := "loop.example/g01368/laws.FnExactOtherOdds", spec := "fnExactOtherOdds", apart := false }
def FnExactOtherOddsSaid : Prop := fnExactOtherOddsRow.holds Try.pinned (OpenSpec.ofChange fnExactOtherOddsSpec)

/-- ITS FALSE NEIGHBOUR: 'it returns false'. Refute it at one input. -/
def fnExactOtherOddsWrong : ChangeSpec := { name := "fnExactOtherOdds", fn := fun _ => fun
  | [d] => { results := [.lit (.bool false)], args := [d] }
  | _ => none }
def FnExactOtherOddsWrongFalsely : Prop := fnExactOtherOddsRow.holds Try.pinned (OpenSpec.ofChange fnExactOtherOddsWrong)

/-- 'laws.FnExactEndsAt': WHATEVER THE INPUT: true; the input reads as it did. -/
def fnExactEndsAtSpec : ChangeSpec := { name := "fnExactEndsAt", fn := fun _ => fun
  | [d1, d2, d3] => { results := [.lit (.bool true)], args := [d1, d2, d3] }
  | _ => none }
def fnExactEndsAtRow : OpenClaim := { program := "ytjidebaganmeoaa", sum := "8a662f09e7d750a99f7d30bb6e49d5fcb2dc656c771002a6194cc0afbb20d2c7", func := "loop.example/g01368/laws.FnExactEndsAt", spec := "fnExactEndsAt", apart := false }
def FnExactEndsAtSaid : Prop := fnExactEndsAtRow.holds Try.pinned (OpenSpec.ofChange fnExactEndsAtSpec)

/-- ITS FALSE NEIGHBOUR: 'it returns false'. Refute it at one input. -/
def fnExactEndsAtWrong : ChangeSpec := { name := "fnExactEndsAt", fn := fun _ => fun
  | [d1, d2, d3] => { results := [.lit (.bool false)], args := [d1, d2, d3] }
  | _ => none }
def FnExactEndsAtWrongFalsely : Prop := fnExactEndsAtRow.holds Try.pinned (OpenSpec.ofChange fnExactEndsAtWrong)

/-- 'laws.FnExactCountPlaysTo': WHATEVER THE INPUT: true; the input reads as it did. -/
def fnExactCountPlaysToSpec : ChangeSpec := { name := "fnExactCountPlaysTo", fn := fun _ => fun
  | [d1, d2, d3] => { results := [.lit (.bool true)], args := [d1, d2, d3] }
  | _ => none }
def fnExactCountPlaysToRow : OpenClaim := { program := "ytjidebaganmeoaa", sum := "8a662f09e7d750a99f7d30bb6e49d5fcb2dc656c771002a6194cc0afbb20d2c7", func := "loop.example/g01368/laws.FnExactCountPlaysTo", spec := "fnExactCountPlaysTo", apart := false }
def FnExactCountPlaysToSaid : Prop := fnExactCountPlaysToRow.holds Try.pinned (OpenSpec.ofChange fnExactCountPlaysToSpec)

/-- ITS FALSE NEIGHBOUR: 'it returns false'. Refute it at one input. -/
def fnExactCountPlaysToWrong : ChangeSpec := { name := "fnExactCountPlaysTo", fn := fun _ => fun
  | [d1, d2, d3] => { results := [.lit (.bool false)], args := [d1, d2, d3] }
  | _ => none }
def FnExactCountPlaysToWrongFalsely : Prop := fnExactCountPlaysToRow.holds Try.pinned (OpenSpec.ofChange fnExactCountPlaysToWrong)

/-- 'laws.FnExactCountEnded': WHATEVER THE INPUT: true; the input reads as it did. -/
def fnExactCountEndedSpec : ChangeSpec := { name := "fnExactCountEnded", fn := fun _ => fun
  | [d1, d2] => { results := [.lit (.bool true)], args := [d1, d2] }
  | _ => none }
def fnExactCountEndedRow : OpenClaim := { program := "ytjidebaganmeoaa", sum := "8a662f09e7d750a99f7d30bb6e49d5fcb2dc656c771002a6194cc0afbb20d2c7", func := "loop.example/g01368/laws.FnExactCountEnded", spec := "fnExactCountEnded", apart := false }
def FnExactCountEndedSaid : Prop := fnExactCountEndedRow.holds Try.pinned (OpenSpec.ofChange fnExactCountEndedSpec)

/-- ITS FALSE NEIGHBOUR: 'it returns false'. Refute it at one input. -/
def fnExactCountEndedWrong : ChangeSpec := { name := "fnExactCountEnded", fn := fun _ => fun
  | [d1, d2] => { results := [.lit (.bool false)], args := [d1, d2] }
  | _ => none }
def FnExactCountEndedWrongFalsely : Prop := fnExactCountEndedRow.holds Try.pinned (OpenSpec.ofChange fnExactCountEndedWrong)

/-- 'laws.FnExactCountOpenPlays': WHATEVER THE INPUT: true; the input reads as it did. -/
def fnExactCountOpenPlaysSpec : ChangeSpec := { name := "fnExactCountOpenPlays", fn := fun _ => fun
  | [d1, d2] => { results := [.lit (.bool true)], args := [d1, d2] }
  | _ => none }
def fnExactCountOpenPlaysRow : OpenClaim := { program := "ytjidebaganmeoaa", sum := "8a662f09e7d750a99f7d30bb6e49d5fcb2dc656c771002a6194cc0afbb20d2c7", func := "loop.example/g01368/laws.FnExactCountOpenPlays", spec := "fnExactCountOpenPlays", apart := false }
def FnExactCountOpenPlaysSaid : Prop := fnExactCountOpenPlaysRow.holds Try.pinned (OpenSpec.ofChange fnExactCountOpenPlaysSpec)

/-- ITS FALSE NEIGHBOUR: 'it returns false'. Refute it at one input. -/
def fnExactCountOpenPlaysWrong : ChangeSpec := { name := "fnExactCountOpenPlays", fn := fun _ => fun
  | [d1, d2] => { results := [.lit (.bool false)], args := [d1, d2] }
  | _ => none }
def FnExactCountOpenPlaysWrongFalsely : Prop := fnExactCountOpenPlaysRow.holds Try.pinned (OpenSpec.ofChange fnExactCountOpenPlaysWrong)

/-- 'laws.FnExactFirstPlayTo': WHATEVER THE INPUT: true; the input reads as it did. -/
def fnExactFirstPlayToSpec : ChangeSpec := { name := "fnExactFirstPlayTo", fn := fun _ => fun
  | [d1, d2, d3] => { results := [.lit (.bool true)], args := [d1, d2, d3] }
  | _ => none }
def fnExactFirstPlayToRow : OpenClaim := { program := "ytjidebaganmeoaa", sum := "8a662f09e7d750a99f7d30bb6e49d5fcb2dc656c771002a6194cc0afbb20d2c7", func := "loop.example/g01368/laws.FnExactFirstPlayTo", spec := "fnExactFirstPlayTo", apart := false }
def FnExactFirstPlayToSaid : Prop := fnExactFirstPlayToRow.holds Try.pinned (OpenSpec.ofChange fnExactFirstPlayToSpec)

/-- ITS FALSE NEIGHBOUR: 'it returns false'. Refute it at one input. -/
def fnExactFirstPlayToWrong : ChangeSpec := { name := "fnExactFirstPlayTo", fn := fun _ => fun
  | [d1, d2, d3] => { results := [.lit (.bool false)], args := [d1, d2, d3] }
  | _ => none }
def FnExactFirstPlayToWrongFalsely : Prop := fnExactFirstPlayToRow.holds Try.pinned (OpenSpec.ofChange fnExactFirstPlayToWrong)

/-- 'laws.FnExactPlayOfRank': WHATEVER THE INPUT: true; the input reads as it did. -/
def fnExactPlayOfRankSpec : ChangeSpec := { name := "fnExactPlayOfRank", fn := fun _ => fun
  | [d1, d2, d3, d4] => { results := [.lit (.bool true)], args := [d1, d2, d3, d4] }
  | _ => none }
def fnExactPlayOfRankRow : OpenClaim := { program := "ytjidebaganmeoaa", sum := "8a662f09e7d750a99f7d30bb6e49d5fcb2dc656c771002a6194cc0afbb20d2c7", func := "loop.example/g01368/laws.FnExactPlayOfRank", spec := "fnExactPlayOfRank", apart := false }
def FnExactPlayOfRankSaid : Prop := fnExactPlayOfRankRow.holds Try.pinned (OpenSpec.ofChange fnExactPlayOfRankSpec)

/-- ITS FALSE NEIGHBOUR: 'it returns false'. Refute it at one input. -/
def fnExactPlayOfRankWrong : ChangeSpec := { name := "fnExactPlayOfRank", fn := fun _ => fun
  | [d1, d2, d3, d4] => { results := [.lit (.bool false)], args := [d1, d2, d3, d4] }
  | _ => none }
def FnExactPlayOfRankWrongFalsely : Prop := fnExactPlayOfRankRow.holds Try.pinned (OpenSpec.ofChange fnExactPlayOfRankWrong)

/- THE SECOND FORM. 'bulk': how many values and letters a reading holds, each counted each time it is reached (what is shared counts as often as it is met; a slice's spare places count too). A statement '..UptoSaid' is the law's where the arguments, and the package variables that the reading takes, are together of bulk at most 1048576: NARROWER than '..Said'. Prove '..Said' where nothing that the law and all that it calls make is longer than what came in: it says more and counts as full. Else prove '..UptoSaid'. A law counts once. -/
mutual
def uptoBulk {H : Type} : DataW H → Nat
  | .lit (.string bytes) => bytes.length + 1
  | .lit _ => 1
  | .nil => 1
  | .ptr d => uptoBulk d + 1
  | .slice elems spare => uptoBulkAll elems + uptoBulkAll spare + 1
  | .agg parts => uptoBulkAll parts + 1
  | .iface _ d => uptoBulk d + 1
  | .map entries => uptoBulkEntries entries + 1
  | .held _ => 1
def uptoBulkAll {H : Type} : List (DataW H) → Nat
  | [] => 0
  | d :: r => uptoBulk d + uptoBulkAll r
def uptoBulkEntries {H : Type} : List (Lit × DataW H) → Nat
  | [] => 0
  | x :: r => uptoBulkEntry x + uptoBulkEntries r
def uptoBulkEntry {H : Type} : Lit × DataW H → Nat
  | (.string bytes, d) => bytes.length + uptoBulk d + 1
  | (_, d) => uptoBulk d + 1
 end
def uptoSmall : (H : Type) → List (DataW H) → Bool := fun _ ds => decide (uptoBulkAll ds ≤ 1048576)
def OpenSpec.upto (s : _root_.Go.ChangeSpec) : _root_.Go.OpenSpec := { _root_.Go.OpenSpec.ofChange s with cond := some uptoSmall }

/-- 'laws.FnExactAreOdds', WHERE WHAT IT READS IS OF BULK AT MOST 1048576: true; the input reads as it did. -/
def fnExactAreOddsUptoRow : OpenClaim := { program := "ytjidebaganmeoaa", sum := "8a662f09e7d750a99f7d30bb6e49d5fcb2dc656c771002a6194cc0afbb20d2c7", func := "loop.example/g01368/laws.FnExactAreOdds", spec := "fnExactAreOdds", apart := false, narrowed := true }
def FnExactAreOddsUptoSaid : Prop := fnExactAreOddsUptoRow.holds Try.pinned (OpenSpec.upto fnExactAreOddsSpec)

/-- 'laws.FnExactIsRace', WHERE WHAT IT READS IS OF BULK AT MOST 1048576: true; the input reads as it did. -/
def fnExactIsRaceUptoRow : OpenClaim := { program := "ytjidebaganmeoaa", sum := "8a662f09e7d750a99f7d30bb6e49d5fcb2dc656c771002a6194cc0afbb20d2c7", func := "loop.example/g01368/laws.FnExactIsRace", spec := "fnExactIsRace", apart := false, narrowed := true }
def FnExactIsRaceUptoSaid : Prop := fnExactIsRaceUptoRow.holds Try.pinned (OpenSpec.upto fnExactIsRaceSpec)

/-- 'laws.FnExactOtherOdds', WHERE WHAT IT READS IS OF BULK AT MOST 1048576: true; the input reads as it did. -/
def fnExactOtherOddsUptoRow : OpenClaim := { program := "ytjidebaganmeoaa", sum := "8a662f09e7d750a99f7d30bb6e49d5fcb2dc656c771002a6194cc0afbb20d2c7", func := "loop.example/g01368/laws.FnExactOtherOdds", spec := "fnExactOtherOdds", apart := false, narrowed := true }
def FnExactOtherOddsUptoSaid : Prop := fnExactOtherOddsUptoRow.holds Try.pinned (OpenSpec.upto fnExactOtherOddsSpec)

/-- 'laws.FnExactEndsAt', WHERE WHAT IT READS IS OF BULK AT MOST 1048576: true; the input reads as it did. -/
def fnExactEndsAtUptoRow : OpenClaim := { program := "ytjidebaganmeoaa", sum := "8a662f09e7d750a99f7d30bb6e49d5fcb2dc656c771002a6194cc0afbb20d2c7", func := "loop.example/g01368/laws.FnExactEndsAt", spec := "fnExactEndsAt", apart := false, narrowed := true }
def FnExactEndsAtUptoSaid : Prop := fnExactEndsAtUptoRow.holds Try.pinned (OpenSpec.upto fnExactEndsAtSpec)

/-- 'laws.FnExactCountPlaysTo', WHERE WHAT IT READS IS OF BULK AT MOST 1048576: true; the input reads as it did. -/
def fnExactCountPlaysToUptoRow : OpenClaim := { program := "ytjidebaganmeoaa", sum := "8a662f09e7d750a99f7d30bb6e49d5fcb2dc656c771002a6194cc0afbb20d2c7", func := "loop.example/g01368/laws.FnExactCountPlaysTo", spec := "fnExactCountPlaysTo", apart := false, narrowed := true }
def FnExactCountPlaysToUptoSaid : Prop := fnExactCountPlaysToUptoRow.holds Try.pinned (OpenSpec.upto fnExactCountPlaysToSpec)

/-- 'laws.FnExactCountEnded', WHERE WHAT IT READS IS OF BULK AT MOST 1048576: true; the input reads as it did. -/
def fnExactCountEndedUptoRow : OpenClaim := { program := "ytjidebaganmeoaa", sum := "8a662f09e7d750a99f7d30bb6e49d5fcb2dc656c771002a6194cc0afbb20d2c7", func := "loop.example/g01368/laws.FnExactCountEnded", spec := "fnExactCountEnded", apart := false, narrowed := true }
def FnExactCountEndedUptoSaid : Prop := fnExactCountEndedUptoRow.holds Try.pinned (OpenSpec.upto fnExactCountEndedSpec)

/-- 'laws.FnExactCountOpenPlays', WHERE WHAT IT READS IS OF BULK AT MOST 1048576: true; the input reads as it did. -/
def fnExactCountOpenPlaysUptoRow : OpenClaim := { program := "ytjidebaganmeoaa", sum := "8a662f09e7d750a99f7d30bb6e49d5fcb2dc656c771002a6194cc0afbb20d2c7", func := "loop.example/g01368/laws.FnExactCountOpenPlays", spec := "fnExactCountOpenPlays", apart := false, narrowed := true }
def FnExactCountOpenPlaysUptoSaid : Prop := fnExactCountOpenPlaysUptoRow.holds Try.pinned (OpenSpec.upto fnExactCountOpenPlaysSpec)

/-- 'laws.FnExactFirstPlayTo', WHERE WHAT IT READS IS OF BULK AT MOST 1048576: true; the input reads as it did. -/
def fnExactFirstPlayToUptoRow : OpenClaim := { program := "ytjidebaganmeoaa", sum := "8a662f09e7d750a99f7d30bb6e49d5fcb2dc656c771002a6194cc0afbb20d2c7", func := "loop.example/g01368/laws.FnExactFirstPlayTo", spec := "fnExactFirstPlayTo", apart := false, narrowed := true }
def FnExactFirstPlayToUptoSaid : Prop := fnExactFirstPlayToUptoRow.holds Try.pinned (OpenSpec.upto fnExactFirstPlayToSpec)

/-- 'laws.FnExactPlayOfRank', WHERE WHAT IT READS IS OF BULK AT MOST 1048576: true; the input reads as it did. -/
def fnExactPlayOfRankUptoRow : OpenClaim := { program := "ytjidebaganmeoaa", sum := "8a662f09e7d750a99f7d30bb6e49d5fcb2dc656c771002a6194cc0afbb20d2c7", func := "loop.example/g01368/laws.FnExactPlayOfRank", spec := "fnExactPlayOfRank", apart := false, narrowed := true }
def FnExactPlayOfRankUptoSaid : Prop := fnExactPlayOfRankUptoRow.holds Try.pinned (OpenSpec.upto fnExactPlayOfRankSpec)

end Rows
end Go.Proofs.Ytjidebaganmeoaa
