/-
  NARROWER THAN 'FOR EVERY INPUT', by the rows' own cells (each row's printed sentence says how): FnExactServersOf: laid · FnExactLongestRun: laid · FnExactPointsOnServe: laid · FnExactIsPlay: laid · FnExactPointsIn: laid · FnExactWinnerOf: laid · FnExactNextWinners: laid · FnExactFewestToWin: laid · FnExactGreatestComeback: laid · FnExactMatchOf: laid.
  DERIVED. THE GIVEN ROWS OF THIS SEAT. 10 by the template 'for every input the law returns true; each argument reads behind the call as it read before'; 0 by the template 'total and deterministic' (their statements: YtlfbpidklpjieaaDoorTotals.lean).
  GIVEN WITH THE SEED: the statements are not yours to turn. If you find one false, say at which input.
  Laid BY PROGRAM, IN A SANDBOX (cutbox-rows.mjs): the forced cells as the released guide's own fill.sh prints them over the translation 204429797faf1d81… (all of the seat's roots in one cut). By AI agents, Wed Nov 11 2026. No macro, syntax, notation, axiom, sorry.
-/
import Derived.Test.YtlfbpidklpjieaaDoorChecked
import GoSem.PinnedTables
import GoSem.Claim
import GoSem.ClaimJoined
import GoSem.ClaimMapViews
import Derived.JoinedTies
import Derived.KernelRfl
namespace Go.Proofs.YtlfbpidklpjieaaDoor
/- THE CELL 'sum', in the pinned program and in every row, IS THE sha256 OF THE DUMP (.gsa) THAT YtlfbpidklpjieaaDoorProg.lean LOADS. Nothing in Lean hashes anything: it is a label: what it is worth is what the hold of that sum in a sandbox is worth. -/
noncomputable def Tryd.pinned : Pinned := { name := "ytlfbpidklpjieaadoor", sum := "204429797faf1d81db002585c47a3f650cd70a5cf89d497f7742b7359ddca06a", checked := Tryd.checked }
namespace Rows
def none {H : Type} : Left H := { results := [], args := [] }

/- WHAT THE LISTED PACKAGE-LEVEL VARIABLES READ AS WHEN THE CALL BEGINS. Each datum BY PROGRAM (the guide's laid-datum.mjs) off the statement by which the dump's own 'gosem.cut.vars' lays the variable. In a bare row this is a premise. The card (YtlfbpidklpjieaaDoorCards.lean) ties it to the program's text. -/
def laid_unicode_utf8_acceptRanges {H : Type} : DataW H := .agg [.agg [.lit (.int .u8 128), .lit (.int .u8 191)], .agg [.lit (.int .u8 160), .lit (.int .u8 191)], .agg [.lit (.int .u8 128), .lit (.int .u8 159)], .agg [.lit (.int .u8 144), .lit (.int .u8 191)], .agg [.lit (.int .u8 128), .lit (.int .u8 143)], .agg [.lit (.int .u8 0), .lit (.int .u8 0)], .agg [.lit (.int .u8 0), .lit (.int .u8 0)], .agg [.lit (.int .u8 0), .lit (.int .u8 0)], .agg [.lit (.int .u8 0), .lit (.int .u8 0)], .agg [.lit (.int .u8 0), .lit (.int .u8 0)], .agg [.lit (.int .u8 0), .lit (.int .u8 0)], .agg [.lit (.int .u8 0), .lit (.int .u8 0)], .agg [.lit (.int .u8 0), .lit (.int .u8 0)], .agg [.lit (.int .u8 0), .lit (.int .u8 0)], .agg [.lit (.int .u8 0), .lit (.int .u8 0)], .agg [.lit (.int .u8 0), .lit (.int .u8 0)]]
/-- One of Go's own tables, pinned by name: the form's constant. -/
def laid_unicode_utf8_first : DataW Unit := Go.Pinned.utf8First

/-- 'laws.FnExactServersOf': WHATEVER THE INPUT: true; the input reads as it did. -/
def fnExactServersOfSpec : ChangeSpec := { name := "fnExactServersOf", fn := fun _ => fun
  | [d1, d2] => { results := [.lit (.bool true)], args := [d1, d2] }
  | _ => none }
def fnExactServersOfRow : OpenClaim := { program := "ytlfbpidklpjieaadoor", sum := "204429797faf1d81db002585c47a3f650cd70a5cf89d497f7742b7359ddca06a", func := "loop.example/g01368/laws.FnExactServersOf", spec := "fnExactServersOf", inPlace := ["internal/bytealg.IndexByteString", "internal/bytealg.IndexString"], named := ["unicode/utf8.first", "unicode/utf8.acceptRanges", "internal/bytealg.MaxLen"], apart := false, laid := [("unicode/utf8.acceptRanges", laid_unicode_utf8_acceptRanges), ("unicode/utf8.first", laid_unicode_utf8_first)] }
def FnExactServersOfSaid : Prop := fnExactServersOfRow.holds Tryd.pinned (OpenSpec.ofChange fnExactServersOfSpec)

/-- ITS FALSE NEIGHBOUR: 'it returns false'. Refute it at one input. -/
def fnExactServersOfWrong : ChangeSpec := { name := "fnExactServersOf", fn := fun _ => fun
  | [d1, d2] => { results := [.lit (.bool false)], args := [d1, d2] }
  | _ => none }
def FnExactServersOfWrongFalsely : Prop := fnExactServersOfRow.holds Tryd.pinned (OpenSpec.ofChange fnExactServersOfWrong)

/-- 'laws.FnExactLongestRun': WHATEVER THE INPUT: true; the input reads as it did. -/
def fnExactLongestRunSpec : ChangeSpec := { name := "fnExactLongestRun", fn := fun _ => fun
  | [d] => { results := [.lit (.bool true)], args := [d] }
  | _ => none }
def fnExactLongestRunRow : OpenClaim := { program := "ytlfbpidklpjieaadoor", sum := "204429797faf1d81db002585c47a3f650cd70a5cf89d497f7742b7359ddca06a", func := "loop.example/g01368/laws.FnExactLongestRun", spec := "fnExactLongestRun", inPlace := ["internal/bytealg.IndexByteString", "internal/bytealg.IndexString"], named := ["unicode/utf8.first", "unicode/utf8.acceptRanges", "internal/bytealg.MaxLen"], apart := false, laid := [("unicode/utf8.acceptRanges", laid_unicode_utf8_acceptRanges), ("unicode/utf8.first", laid_unicode_utf8_first)] }
def FnExactLongestRunSaid : Prop := fnExactLongestRunRow.holds Tryd.pinned (OpenSpec.ofChange fnExactLongestRunSpec)

/-- ITS FALSE NEIGHBOUR: 'it returns false'. Refute it at one input. -/
def fnExactLongestRunWrong : ChangeSpec := { name := "fnExactLongestRun", fn := fun _ => fun
  | [d] => { results := [.lit (.bool false)], args := [d] }
  | _ => none }
def FnExactLongestRunWrongFalsely : Prop := fnExactLongestRunRow.holds Tryd.pinned (OpenSpec.ofChange fnExactLongestRunWrong)

/-- 'laws.FnExactPointsOnServe': WHATEVER THE INPUT: true; the input reads as it did. -/
def fnExactPointsOnServeSpec : ChangeSpec := { name := "fnExactPointsOnServe", fn := fun _ => fun
  | [d1, d2] => { results := [.lit (.bool true)], args := [d1, d2] }
  | _ => none }
def fnExactPointsOnServeRow : OpenClaim := { program := "ytlfbpidklpjieaadoor", sum := "204429797faf1d81db002585c47a3f650cd70a5cf89d497f7742b7359ddca06a", func := "loop.example/g01368/laws.FnExactPointsOnServe", spec := "fnExactPointsOnServe", inPlace := ["internal/bytealg.IndexByteString", "internal/bytealg.IndexString"], named := ["unicode/utf8.first", "unicode/utf8.acceptRanges", "internal/bytealg.MaxLen"], apart := false, laid := [("unicode/utf8.acceptRanges", laid_unicode_utf8_acceptRanges), ("unicode/utf8.first", laid_unicode_utf8_first)] }
def FnExactPointsOnServeSaid : Prop := fnExactPointsOnServeRow.holds Tryd.pinned (OpenSpec.ofChange fnExactPointsOnServeSpec)

/-- ITS FALSE NEIGHBOUR: 'it returns false'. Refute it at one input. -/
def fnExactPointsOnServeWrong : ChangeSpec := { name := "fnExactPointsOnServe", fn := fun _ => fun
  | [d1, d2] => { results := [.lit (.bool false)], args := [d1, d2] }
  | _ => none }
def FnExactPointsOnServeWrongFalsely : Prop := fnExactPointsOnServeRow.holds Tryd.pinned (OpenSpec.ofChange fnExactPointsOnServeWrong)

/-- 'laws.FnExactIsPlay': WHATEVER THE INPUT: true; the input reads as it did. -/
def fnExactIsPlaySpec : ChangeSpec := { name := "fnExactIsPlay", fn := fun _ => fun
  | [d1, d2] => { results := [.lit (.bool true)], args := [d1, d2] }
  | _ => none }
def fnExactIsPlayRow : OpenClaim := { program := "ytlfbpidklpjieaadoor", sum := "204429797faf1d81db002585c47a3f650cd70a5cf89d497f7742b7359ddca06a", func := "loop.example/g01368/laws.FnExactIsPlay", spec := "fnExactIsPlay", inPlace := ["internal/bytealg.IndexByteString", "internal/bytealg.IndexString"], named := ["unicode/utf8.first", "unicode/utf8.acceptRanges", "internal/bytealg.MaxLen"], apart := false, laid := [("unicode/utf8.acceptRanges", laid_unicode_utf8_acceptRanges), ("unicode/utf8.first", laid_unicode_utf8_first)] }
def FnExactIsPlaySaid : Prop := fnExactIsPlayRow.holds Tryd.pinned (OpenSpec.ofChange fnExactIsPlaySpec)

/-- ITS FALSE NEIGHBOUR: 'it returns false'. Refute it at one input. -/
def fnExactIsPlayWrong : ChangeSpec := { name := "fnExactIsPlay", fn := fun _ => fun
  | [d1, d2] => { results := [.lit (.bool false)], args := [d1, d2] }
  | _ => none }
def FnExactIsPlayWrongFalsely : Prop := fnExactIsPlayRow.holds Tryd.pinned (OpenSpec.ofChange fnExactIsPlayWrong)

/-- 'laws.FnExactPointsIn': WHATEVER THE INPUT: true; the input reads as it did. -/
def fnExactPointsInSpec : ChangeSpec := { name := "fnExactPointsIn", fn := fun _ => fun
  | [d1, d2] => { results := [.lit (.bool true)], args := [d1, d2] }
  | _ => none }
def fnExactPointsInRow : OpenClaim := { program := "ytlfbpidklpjieaadoor", sum := "204429797faf1d81db002585c47a3f650cd70a5cf89d497f7742b7359ddca06a", func := "loop.example/g01368/laws.FnExactPointsIn", spec := "fnExactPointsIn", inPlace := ["internal/bytealg.IndexByteString", "internal/bytealg.IndexString"], named := ["unicode/utf8.first", "unicode/utf8.acceptRanges", "internal/bytealg.MaxLen"], apart := false, laid := [("unicode/utf8.acceptRanges", laid_unicode_utf8_acceptRanges), ("unicode/utf8.first", laid_unicode_utf8_first)] }
def FnExactPointsInSaid : Prop := fnExactPointsInRow.holds Tryd.pinned (OpenSpec.ofChange fnExactPointsInSpec)

/-- ITS FALSE NEIGHBOUR: 'it returns false'. Refute it at one input. -/
def fnExactPointsInWrong : ChangeSpec := { name := "fnExactPointsIn", fn := fun _ => fun
  | [d1, d2] => { results := [.lit (.bool false)], args := [d1, d2] }
  | _ => none }
def FnExactPointsInWrongFalsely : Prop := fnExactPointsInRow.holds Tryd.pinned (OpenSpec.ofChange fnExactPointsInWrong)

/-- 'laws.FnExactWinnerOf': WHATEVER THE INPUT: true; the input reads as it did. -/
def fnExactWinnerOfSpec : ChangeSpec := { name := "fnExactWinnerOf", fn := fun _ => fun
  | [d1, d2] => { results := [.lit (.bool true)], args := [d1, d2] }
  | _ => none }
def fnExactWinnerOfRow : OpenClaim := { program := "ytlfbpidklpjieaadoor", sum := "204429797faf1d81db002585c47a3f650cd70a5cf89d497f7742b7359ddca06a", func := "loop.example/g01368/laws.FnExactWinnerOf", spec := "fnExactWinnerOf", inPlace := ["internal/bytealg.IndexByteString", "internal/bytealg.IndexString"], named := ["unicode/utf8.first", "unicode/utf8.acceptRanges", "internal/bytealg.MaxLen"], apart := false, laid := [("unicode/utf8.acceptRanges", laid_unicode_utf8_acceptRanges), ("unicode/utf8.first", laid_unicode_utf8_first)] }
def FnExactWinnerOfSaid : Prop := fnExactWinnerOfRow.holds Tryd.pinned (OpenSpec.ofChange fnExactWinnerOfSpec)

/-- ITS FALSE NEIGHBOUR: 'it returns false'. Refute it at one input. -/
def fnExactWinnerOfWrong : ChangeSpec := { name := "fnExactWinnerOf", fn := fun _ => fun
  | [d1, d2] => { results := [.lit (.bool false)], args := [d1, d2] }
  | _ => none }
def FnExactWinnerOfWrongFalsely : Prop := fnExactWinnerOfRow.holds Tryd.pinned (OpenSpec.ofChange fnExactWinnerOfWrong)

/-- 'laws.FnExactNextWinners': WHATEVER THE INPUT: true; the input reads as it did. -/
def fnExactNextWinnersSpec : ChangeSpec := { name := "fnExactNextWinners", fn := fun _ => fun
  | [d1, d2] => { results := [.lit (.bool true)], args := [d1, d2] }
  | _ => none }
def fnExactNextWinnersRow : OpenClaim := { program := "ytlfbpidklpjieaadoor", sum := "204429797faf1d81db002585c47a3f650cd70a5cf89d497f7742b7359ddca06a", func := "loop.example/g01368/laws.FnExactNextWinners", spec := "fnExactNextWinners", inPlace := ["internal/bytealg.IndexByteString", "internal/bytealg.IndexString"], named := ["unicode/utf8.first", "unicode/utf8.acceptRanges", "internal/bytealg.MaxLen"], apart := false, laid := [("unicode/utf8.acceptRanges", laid_unicode_utf8_acceptRanges), ("unicode/utf8.first", laid_unicode_utf8_first)] }
def FnExactNextWinnersSaid : Prop := fnExactNextWinnersRow.holds Tryd.pinned (OpenSpec.ofChange fnExactNextWinnersSpec)

/-- ITS FALSE NEIGHBOUR: 'it returns false'. Refute it at one input. -/
def fnExactNextWinnersWrong : ChangeSpec := { name := "fnExactNextWinners", fn := fun _ => fun
  | [d1, d2] => { results := [.lit (.bool false)], args := [d1, d2] }
  | _ => none }
def FnExactNextWinnersWrongFalsely : Prop := fnExactNextWinnersRow.holds Tryd.pinned (OpenSpec.ofChange fnExactNextWinnersWrong)

/-- 'laws.FnExactFewestToWin': WHATEVER THE INPUT: true; the input reads as it did. -/
def fnExactFewestToWinSpec : ChangeSpec := { name := "fnExactFewestToWin", fn := fun _ => fun
  | [d1, d2, d3] => { results := [.lit (.bool true)], args := [d1, d2, d3] }
  | _ => none }
def fnExactFewestToWinRow : OpenClaim := { program := "ytlfbpidklpjieaadoor", sum := "204429797faf1d81db002585c47a3f650cd70a5cf89d497f7742b7359ddca06a", func := "loop.example/g01368/laws.FnExactFewestToWin", spec := "fnExactFewestToWin", inPlace := ["internal/bytealg.IndexByteString", "internal/bytealg.IndexString"], named := ["unicode/utf8.first", "unicode/utf8.acceptRanges", "internal/bytealg.MaxLen"], apart := false, laid := [("unicode/utf8.acceptRanges", laid_unicode_utf8_acceptRanges), ("unicode/utf8.first", laid_unicode_utf8_first)] }
def FnExactFewestToWinSaid : Prop := fnExactFewestToWinRow.holds Tryd.pinned (OpenSpec.ofChange fnExactFewestToWinSpec)

/-- ITS FALSE NEIGHBOUR: 'it returns false'. Refute it at one input. -/
def fnExactFewestToWinWrong : ChangeSpec := { name := "fnExactFewestToWin", fn := fun _ => fun
  | [d1, d2, d3] => { results := [.lit (.bool false)], args := [d1, d2, d3] }
  | _ => none }
def FnExactFewestToWinWrongFalsely : Prop := fnExactFewestToWinRow.holds Tryd.pinned (OpenSpec.ofChange fnExactFewestToWinWrong)

/-- 'laws.FnExactGreatestComeback': WHATEVER THE INPUT: true; the input reads as it did. -/
def fnExactGreatestComebackSpec : ChangeSpec := { name := "fnExactGreatestComeback", fn := fun _ => fun
  | [d1, d2] => { results := [.lit (.bool true)], args := [d1, d2] }
  | _ => none }
def fnExactGreatestComebackRow : OpenClaim := { program := "ytlfbpidklpjieaadoor", sum := "204429797faf1d81db002585c47a3f650cd70a5cf89d497f7742b7359ddca06a", func := "loop.example/g01368/laws.FnExactGreatestComeback", spec := "fnExactGreatestComeback", inPlace := ["internal/bytealg.IndexByteString", "internal/bytealg.IndexString"], named := ["unicode/utf8.first", "unicode/utf8.acceptRanges", "internal/bytealg.MaxLen"], apart := false, laid := [("unicode/utf8.acceptRanges", laid_unicode_utf8_acceptRanges), ("unicode/utf8.first", laid_unicode_utf8_first)] }
def FnExactGreatestComebackSaid : Prop := fnExactGreatestComebackRow.holds Tryd.pinned (OpenSpec.ofChange fnExactGreatestComebackSpec)

/-- ITS FALSE NEIGHBOUR: 'it returns false'. Refute it at one input. -/
def fnExactGreatestComebackWrong : ChangeSpec := { name := "fnExactGreatestComeback", fn := fun _ => fun
  | [d1, d2] => { results := [.lit (.bool false)], args := [d1, d2] }
  | _ => none }
def FnExactGreatestComebackWrongFalsely : Prop := fnExactGreatestComebackRow.holds Tryd.pinned (OpenSpec.ofChange fnExactGreatestComebackWrong)

/-- 'laws.FnExactMatchOf': WHATEVER THE INPUT: true; the input reads as it did. -/
def fnExactMatchOfSpec : ChangeSpec := { name := "fnExactMatchOf", fn := fun _ => fun
  | [d1, d2, d3] => { results := [.lit (.bool true)], args := [d1, d2, d3] }
  | _ => none }
def fnExactMatchOfRow : OpenClaim := { program := "ytlfbpidklpjieaadoor", sum := "204429797faf1d81db002585c47a3f650cd70a5cf89d497f7742b7359ddca06a", func := "loop.example/g01368/laws.FnExactMatchOf", spec := "fnExactMatchOf", inPlace := ["internal/bytealg.IndexByteString", "internal/bytealg.IndexString"], named := ["unicode/utf8.first", "unicode/utf8.acceptRanges", "internal/bytealg.MaxLen"], apart := false, laid := [("unicode/utf8.acceptRanges", laid_unicode_utf8_acceptRanges), ("unicode/utf8.first", laid_unicode_utf8_first)] }
def FnExactMatchOfSaid : Prop := fnExactMatchOfRow.holds Tryd.pinned (OpenSpec.ofChange fnExactMatchOfSpec)

/-- ITS FALSE NEIGHBOUR: 'it returns false'. Refute it at one input. -/
def fnExactMatchOfWrong : ChangeSpec := { name := "fnExactMatchOf", fn := fun _ => fun
  | [d1, d2, d3] => { results := [.lit (.bool false)], args := [d1, d2, d3] }
  | _ => none }
def FnExactMatchOfWrongFalsely : Prop := fnExactMatchOfRow.holds Tryd.pinned (OpenSpec.ofChange fnExactMatchOfWrong)

/- THE SECOND FORM. 'bulk': how many values and letters a reading holds, each counted each time it is reached (what is shared counts as often as it is met; a slice's spare places count too). A statement '..UptoSaid' is the law's where the arguments, and the package variables that the reading takes, are together of bulk at most 1048576: NARROWER than '..Said'. Prove '..Said' where nothing that the law and all that it calls make is longer than what came in: it says more and counts as full. Else prove '..UptoSaid'. A law counts once. -/
mutual
def uptoBulk {H : Type} : DataW H → Nat
  | .lit (.string bytes) => bytes.length + 1
  | .lit _ => 1
  | .nil => 1
  | .ptr d => uptoBulk d + 1
  | .slice elems spare => uptoBulkAll elems + uptoBulkAll spare + 1
  | .agg parts => uptoBulkAll parts + 1
  | .iface _ d => uptoBulk d + 1
  | .map entries => uptoBulkEntries entries + 1
  | .held _ => 1
def uptoBulkAll {H : Type} : List (DataW H) → Nat
  | [] => 0
  | d :: r => uptoBulk d + uptoBulkAll r
def uptoBulkEntries {H : Type} : List (Lit × DataW H) → Nat
  | [] => 0
  | x :: r => uptoBulkEntry x + uptoBulkEntries r
def uptoBulkEntry {H : Type} : Lit × DataW H → Nat
  | (.string bytes, d) => bytes.length + uptoBulk d + 1
  | (_, d) => uptoBulk d + 1
 end
def uptoSmall : (H : Type) → List (DataW H) → Bool := fun _ ds => decide (uptoBulkAll ds ≤ 1048576)
def OpenSpec.upto (s : _root_.Go.ChangeSpec) : _root_.Go.OpenSpec := { _root_.Go.OpenSpec.ofChange s with cond := some uptoSmall }

/-- 'laws.FnExactServersOf', WHERE WHAT IT READS IS OF BULK AT MOST 1048576: true; the input reads as it did. -/
def fnExactServersOfUptoRow : OpenClaim := { program := "ytlfbpidklpjieaadoor", sum := "204429797faf1d81db002585c47a3f650cd70a5cf89d497f7742b7359ddca06a", func := "loop.example/g01368/laws.FnExactServersOf", spec := "fnExactServersOf", inPlace := ["internal/bytealg.IndexByteString", "internal/bytealg.IndexString"], named := ["unicode/utf8.first", "unicode/utf8.acceptRanges", "internal/bytealg.MaxLen"], apart := false, laid := [("unicode/utf8.acceptRanges", laid_unicode_utf8_acceptRanges), ("unicode/utf8.first", laid_unicode_utf8_first)], narrowed := true }
def FnExactServersOfUptoSaid : Prop := fnExactServersOfUptoRow.holds Tryd.pinned (OpenSpec.upto fnExactServersOfSpec)

/-- 'laws.FnExactLongestRun', WHERE WHAT IT READS IS OF BULK AT MOST 1048576: true; the input reads as it did. -/
def fnExactLongestRunUptoRow : OpenClaim := { program := "ytlfbpidklpjieaadoor", sum := "204429797faf1d81db002585c47a3f650cd70a5cf89d497f7742b7359ddca06a", func := "loop.example/g01368/laws.FnExactLongestRun", spec := "fnExactLongestRun", inPlace := ["internal/bytealg.IndexByteString", "internal/bytealg.IndexString"], named := ["unicode/utf8.first", "unicode/utf8.acceptRanges", "internal/bytealg.MaxLen"], apart := false, laid := [("unicode/utf8.acceptRanges", laid_unicode_utf8_acceptRanges), ("unicode/utf8.first", laid_unicode_utf8_first)], narrowed := true }
def FnExactLongestRunUptoSaid : Prop := fnExactLongestRunUptoRow.holds Tryd.pinned (OpenSpec.upto fnExactLongestRunSpec)

/-- 'laws.FnExactPointsOnServe', WHERE WHAT IT READS IS OF BULK AT MOST 1048576: true; the input reads as it did. -/
def fnExactPointsOnServeUptoRow : OpenClaim := { program := "ytlfbpidklpjieaadoor", sum := "204429797faf1d81db002585c47a3f650cd70a5cf89d497f7742b7359ddca06a", func := "loop.example/g01368/laws.FnExactPointsOnServe", spec := "fnExactPointsOnServe", inPlace := ["internal/bytealg.IndexByteString", "internal/bytealg.IndexString"], named := ["unicode/utf8.first", "unicode/utf8.acceptRanges", "internal/bytealg.MaxLen"], apart := false, laid := [("unicode/utf8.acceptRanges", laid_unicode_utf8_acceptRanges), ("unicode/utf8.first", laid_unicode_utf8_first)], narrowed := true }
def FnExactPointsOnServeUptoSaid : Prop := fnExactPointsOnServeUptoRow.holds Tryd.pinned (OpenSpec.upto fnExactPointsOnServeSpec)

/-- 'laws.FnExactIsPlay', WHERE WHAT IT READS IS OF BULK AT MOST 1048576: true; the input reads as it did. -/
def fnExactIsPlayUptoRow : OpenClaim := { program := "ytlfbpidklpjieaadoor", sum := "204429797faf1d81db002585c47a3f650cd70a5cf89d497f7742b7359ddca06a", func := "loop.example/g01368/laws.FnExactIsPlay", spec := "fnExactIsPlay", inPlace := ["internal/bytealg.IndexByteString", "internal/bytealg.IndexString"], named := ["unicode/utf8.first", "unicode/utf8.acceptRanges", "internal/bytealg.MaxLen"], apart := false, laid := [("unicode/utf8.acceptRanges", laid_unicode_utf8_acceptRanges), ("unicode/utf8.first", laid_unicode_utf8_first)], narrowed := true }
def FnExactIsPlayUptoSaid : Prop := fnExactIsPlayUptoRow.holds Tryd.pinned (OpenSpec.upto fnExactIsPlaySpec)

/-- 'laws.FnExactPointsIn', WHERE WHAT IT READS IS OF BULK AT MOST 1048576: true; the input reads as it did. -/
def fnExactPointsInUptoRow : OpenClaim := { program := "ytlfbpidklpjieaadoor", sum := "204429797faf1d81db002585c47a3f650cd70a5cf89d497f7742b7359ddca06a", func := "loop.example/g01368/laws.FnExactPointsIn", spec := "fnExactPointsIn", inPlace := ["internal/bytealg.IndexByteString", "internal/bytealg.IndexString"], named := ["unicode/utf8.first", "unicode/utf8.acceptRanges", "internal/bytealg.MaxLen"], apart := false, laid := [("unicode/utf8.acceptRanges", laid_unicode_utf8_acceptRanges), ("unicode/utf8.first", laid_unicode_utf8_first)], narrowed := true }
def FnExactPointsInUptoSaid : Prop := fnExactPointsInUptoRow.holds Tryd.pinned (OpenSpec.upto fnExactPointsInSpec)

/-- 'laws.FnExactWinnerOf', WHERE WHAT IT READS IS OF BULK AT MOST 1048576: true; the input reads as it did. -/
def fnExactWinnerOfUptoRow : OpenClaim := { program := "ytlfbpidklpjieaadoor", sum := "204429797faf1d81db002585c47a3f650cd70a5cf89d497f7742b7359ddca06a", func := "loop.example/g01368/laws.FnExactWinnerOf", spec := "fnExactWinnerOf", inPlace := ["internal/bytealg.IndexByteString", "internal/bytealg.IndexString"], named := ["unicode/utf8.first", "unicode/utf8.acceptRanges", "internal/bytealg.MaxLen"], apart := false, laid := [("unicode/utf8.acceptRanges", laid_unicode_utf8_acceptRanges), ("unicode/utf8.first", laid_unicode_utf8_first)], narrowed := true }
def FnExactWinnerOfUptoSaid : Prop := fnExactWinnerOfUptoRow.holds Tryd.pinned (OpenSpec.upto fnExactWinnerOfSpec)

/-- 'laws.FnExactNextWinners', WHERE WHAT IT READS IS OF BULK AT MOST 1048576: true; the input reads as it did. -/
def fnExactNextWinnersUptoRow : OpenClaim := { program := "ytlfbpidklpjieaadoor", sum := "204429797faf1d81db002585c47a3f650cd70a5cf89d497f7742b7359ddca06a", func := "loop.example/g01368/laws.FnExactNextWinners", spec := "fnExactNextWinners", inPlace := ["internal/bytealg.IndexByteString", "internal/bytealg.IndexString"], named := ["unicode/utf8.first", "unicode/utf8.acceptRanges", "internal/bytealg.MaxLen"], apart := false, laid := [("unicode/utf8.acceptRanges", laid_unicode_utf8_acceptRanges), ("unicode/utf8.first", laid_unicode_utf8_first)], narrowed := true }
def FnExactNextWinnersUptoSaid : Prop := fnExactNextWinnersUptoRow.holds Tryd.pinned (OpenSpec.upto fnExactNextWinnersSpec)

/-- 'laws.FnExactFewestToWin', WHERE WHAT IT READS IS OF BULK AT MOST 1048576: true; the input reads as it did. -/
def fnExactFewestToWinUptoRow : OpenClaim := { program := "ytlfbpidklpjieaadoor", sum := "204429797faf1d81db002585c47a3f650cd70a5cf89d497f7742b7359ddca06a", func := "loop.example/g01368/laws.FnExactFewestToWin", spec := "fnExactFewestToWin", inPlace := ["internal/bytealg.IndexByteString", "internal/bytealg.IndexString"], named := ["unicode/utf8.first", "unicode/utf8.acceptRanges", "internal/bytealg.MaxLen"], apart := false, laid := [("unicode/utf8.acceptRanges", laid_unicode_utf8_acceptRanges), ("unicode/utf8.first", laid_unicode_utf8_first)], narrowed := true }
def FnExactFewestToWinUptoSaid : Prop := fnExactFewestToWinUptoRow.holds Tryd.pinned (OpenSpec.upto fnExactFewestToWinSpec)

/-- 'laws.FnExactGreatestComeback', WHERE WHAT IT READS IS OF BULK AT MOST 1048576: true; the input reads as it did. -/
def fnExactGreatestComebackUptoRow : OpenClaim := { program := "ytlfbpidklpjieaadoor", sum := "204429797faf1d81db002585c47a3f650cd70a5cf89d497f7742b7359ddca06a", func := "loop.example/g01368/laws.FnExactGreatestComeback", spec := "fnExactGreatestComeback", inPlace := ["internal/bytealg.IndexByteString", "internal/bytealg.IndexString"], named := ["unicode/utf8.first", "unicode/utf8.acceptRanges", "internal/bytealg.MaxLen"], apart := false, laid := [("unicode/utf8.acceptRanges", laid_unicode_utf8_acceptRanges), ("unicode/utf8.first", laid_unicode_utf8_first)], narrowed := true }
def FnExactGreatestComebackUptoSaid : Prop := fnExactGreatestComebackUptoRow.holds Tryd.pinned (OpenSpec.upto fnExactGreatestComebackSpec)

/-- 'laws.FnExactMatchOf', WHERE WHAT IT READS IS OF BULK AT MOST 1048576: true; the input reads as it did. -/
def fnExactMatchOfUptoRow : OpenClaim := { program := "ytlfbpidklpjieaadoor", sum := "204429797faf1d81db002585c47a3f650cd70a5cf89d497f7742b7359ddca06a", func := "loop.example/g01368/laws.FnExactMatchOf", spec := "fnExactMatchOf", inPlace := ["internal/bytealg.IndexByteString", "internal/bytealg.IndexString"], named := ["unicode/utf8.first", "unicode/utf8.acceptRanges", "internal/bytealg.MaxLen"], apart := false, laid := [("unicode/utf8.acceptRanges", laid_unicode_utf8_acceptRanges), ("unicode/utf8.first", laid_unicode_utf8_first)], narrowed := true }
def FnExactMatchOfUptoSaid : Prop := fnExactMatchOfUptoRow.holds Tryd.pinned (OpenSpec.upto fnExactMatchOfSpec)

end Rows
end Go.Proofs.YtlfbpidklpjieaaDoor
