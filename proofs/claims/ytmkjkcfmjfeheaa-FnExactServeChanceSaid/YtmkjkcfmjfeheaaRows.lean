/-
  No cell of these rows narrows 'for every input' (looked for: loops, veiled, ifaces, maps, wideKeys, modest, calm, conditions, laid).
  DERIVED. THE GIVEN ROWS OF THIS SEAT. 3 by the template 'for every input the law returns true; each argument reads behind the call as it read before'; 0 by the template 'total and deterministic' (their statements: YtmkjkcfmjfeheaaTotals.lean).
  GIVEN WITH THE SEED: the statements are not yours to turn. If you find one false, say at which input.
  Laid BY PROGRAM, IN A SANDBOX (cutbox-rows.mjs): the forced cells as the released guide's own fill.sh prints them over the translation 17d0823a987c54bb… (all of the seat's roots in one cut). By AI agents, Wed Nov 11 2026. No macro, syntax, notation, axiom, sorry.
-/
import Derived.Test.YtmkjkcfmjfeheaaChecked
import GoSem.Claim
import GoSem.ClaimJoined
import GoSem.ClaimMapViews
import Derived.JoinedTies
import Derived.KernelRfl
namespace Go.Proofs.Ytmkjkcfmjfeheaa
/- THE CELL 'sum', in the pinned program and in every row, IS THE sha256 OF THE DUMP (.gsa) THAT YtmkjkcfmjfeheaaProg.lean LOADS. Nothing in Lean hashes anything: it is a label: what it is worth is what the hold of that sum in a sandbox is worth. -/
noncomputable def Try.pinned : Pinned := { name := "ytmkjkcfmjfeheaa", sum := "17d0823a987c54bba725669464c6531697983487dae632192bf7a10d5176c890", checked := Try.checked }
namespace Rows
def none {H : Type} : Left H := { results := [], args := [] }

/-- 'laws.FnExactMeanDeuce': WHATEVER THE INPUT: true; the input reads as it did. -/
def fnExactMeanDeuceSpec : ChangeSpec := { name := "fnExactMeanDeuce", fn := fun _ => fun
  | [d] => { results := [.lit (.bool true)], args := [d] }
  | _ => none }
def fnExactMeanDeuceRow : OpenClaim := { program := "ytmkjkcfmjfeheaa", sum := "17d0823a987c54bba725669464c6531697983487dae632192bf7a10d5176c890", func := "loop.example/g01368/laws.FnExactMeanDeuce", spec := "fnExactMeanDeuce", apart := false }
def FnExactMeanDeuceSaid : Prop := fnExactMeanDeuceRow.holds Try.pinned (OpenSpec.ofChange fnExactMeanDeuceSpec)

/-- ITS FALSE NEIGHBOUR: 'it returns false'. Refute it at one input. -/
def fnExactMeanDeuceWrong : ChangeSpec := { name := "fnExactMeanDeuce", fn := fun _ => fun
  | [d] => { results := [.lit (.bool false)], args := [d] }
  | _ => none }
def FnExactMeanDeuceWrongFalsely : Prop := fnExactMeanDeuceRow.holds Try.pinned (OpenSpec.ofChange fnExactMeanDeuceWrong)

/-- 'laws.FnExactDeuceChance': WHATEVER THE INPUT: true; the input reads as it did. -/
def fnExactDeuceChanceSpec : ChangeSpec := { name := "fnExactDeuceChance", fn := fun _ => fun
  | [d] => { results := [.lit (.bool true)], args := [d] }
  | _ => none }
def fnExactDeuceChanceRow : OpenClaim := { program := "ytmkjkcfmjfeheaa", sum := "17d0823a987c54bba725669464c6531697983487dae632192bf7a10d5176c890", func := "loop.example/g01368/laws.FnExactDeuceChance", spec := "fnExactDeuceChance", apart := false }
def FnExactDeuceChanceSaid : Prop := fnExactDeuceChanceRow.holds Try.pinned (OpenSpec.ofChange fnExactDeuceChanceSpec)

/-- ITS FALSE NEIGHBOUR: 'it returns false'. Refute it at one input. -/
def fnExactDeuceChanceWrong : ChangeSpec := { name := "fnExactDeuceChance", fn := fun _ => fun
  | [d] => { results := [.lit (.bool false)], args := [d] }
  | _ => none }
def FnExactDeuceChanceWrongFalsely : Prop := fnExactDeuceChanceRow.holds Try.pinned (OpenSpec.ofChange fnExactDeuceChanceWrong)

/-- 'laws.FnExactServeChance': WHATEVER THE INPUT: true; the input reads as it did. -/
def fnExactServeChanceSpec : ChangeSpec := { name := "fnExactServeChance", fn := fun _ => fun
  | [d1, d2, d3] => { results := [.lit (.bool true)], args := [d1, d2, d3] }
  | _ => none }
def fnExactServeChanceRow : OpenClaim := { program := "ytmkjkcfmjfeheaa", sum := "17d0823a987c54bba725669464c6531697983487dae632192bf7a10d5176c890", func := "loop.example/g01368/laws.FnExactServeChance", spec := "fnExactServeChance", unfollowed := true, recurses := true, apart := false }
def FnExactServeChanceSaid : Prop := fnExactServeChanceRow.holds Try.pinned (OpenSpec.ofChange fnExactServeChanceSpec)

/-- ITS FALSE NEIGHBOUR: 'it returns false'. Refute it at one input. -/
def fnExactServeChanceWrong : ChangeSpec := { name := "fnExactServeChance", fn := fun _ => fun
  | [d1, d2, d3] => { results := [.lit (.bool false)], args := [d1, d2, d3] }
  | _ => none }
def FnExactServeChanceWrongFalsely : Prop := fnExactServeChanceRow.holds Try.pinned (OpenSpec.ofChange fnExactServeChanceWrong)

/- THE SECOND FORM. 'bulk': how many values and letters a reading holds, each counted each time it is reached (what is shared counts as often as it is met; a slice's spare places count too). A statement '..UptoSaid' is the law's where the arguments, and the package variables that the reading takes, are together of bulk at most 1048576: NARROWER than '..Said'. Prove '..Said' where nothing that the law and all that it calls make is longer than what came in: it says more and counts as full. Else prove '..UptoSaid'. A law counts once. -/
mutual
def uptoBulk {H : Type} : DataW H → Nat
  | .lit (.string bytes) => bytes.length + 1
  | .lit _ => 1
  | .nil => 1
  | .ptr d => uptoBulk d + 1
  | .slice elems spare => uptoBulkAll elems + uptoBulkAll spare + 1
  | .agg parts => uptoBulkAll parts + 1
  | .iface _ d => uptoBulk d + 1
  | .map entries => uptoBulkEntries entries + 1
  | .held _ => 1
def uptoBulkAll {H : Type} : List (DataW H) → Nat
  | [] => 0
  | d :: r => uptoBulk d + uptoBulkAll r
def uptoBulkEntries {H : Type} : List (Lit × DataW H) → Nat
  | [] => 0
  | x :: r => uptoBulkEntry x + uptoBulkEntries r
def uptoBulkEntry {H : Type} : Lit × DataW H → Nat
  | (.string bytes, d) => bytes.length + uptoBulk d + 1
  | (_, d) => uptoBulk d + 1
 end
def uptoSmall : (H : Type) → List (DataW H) → Bool := fun _ ds => decide (uptoBulkAll ds ≤ 1048576)
def OpenSpec.upto (s : _root_.Go.ChangeSpec) : _root_.Go.OpenSpec := { _root_.Go.OpenSpec.ofChange s with cond := some uptoSmall }

/-- 'laws.FnExactMeanDeuce', WHERE WHAT IT READS IS OF BULK AT MOST 1048576: true; the input reads as it did. -/
def fnExactMeanDeuceUptoRow : OpenClaim := { program := "ytmkjkcfmjfeheaa", sum := "17d0823a987c54bba725669464c6531697983487dae632192bf7a10d5176c890", func := "loop.example/g01368/laws.FnExactMeanDeuce", spec := "fnExactMeanDeuce", apart := false, narrowed := true }
def FnExactMeanDeuceUptoSaid : Prop := fnExactMeanDeuceUptoRow.holds Try.pinned (OpenSpec.upto fnExactMeanDeuceSpec)

/-- 'laws.FnExactDeuceChance', WHERE WHAT IT READS IS OF BULK AT MOST 1048576: true; the input reads as it did. -/
def fnExactDeuceChanceUptoRow : OpenClaim := { program := "ytmkjkcfmjfeheaa", sum := "17d0823a987c54bba725669464c6531697983487dae632192bf7a10d5176c890", func := "loop.example/g01368/laws.FnExactDeuceChance", spec := "fnExactDeuceChance", apart := false, narrowed := true }
def FnExactDeuceChanceUptoSaid : Prop := fnExactDeuceChanceUptoRow.holds Try.pinned (OpenSpec.upto fnExactDeuceChanceSpec)

/-- 'laws.FnExactServeChance', WHERE WHAT IT READS IS OF BULK AT MOST 1048576: true; the input reads as it did. -/
def fnExactServeChanceUptoRow : OpenClaim := { program := "ytmkjkcfmjfeheaa", sum := "17d0823a987c54bba725669464c6531697983487dae632192bf7a10d5176c890", func := "loop.example/g01368/laws.FnExactServeChance", spec := "fnExactServeChance", unfollowed := true, recurses := true, apart := false, narrowed := true }
def FnExactServeChanceUptoSaid : Prop := fnExactServeChanceUptoRow.holds Try.pinned (OpenSpec.upto fnExactServeChanceSpec)

end Rows
end Go.Proofs.Ytmkjkcfmjfeheaa
