-- Written by a program of this session (wip/tools/gprint.sh) out of the translation, with some contracts given by hand.
import Derived.Test.YtmkjkcfmjfeheaaProg
import Derived.Below
import Derived.Deep.Draws
import Derived.Deep.AppendLies
import Derived.Maps.AppendAt
import Derived.OwnWalk
import Derived.Laws.BytesArg
import Derived.Laws.MakeOwn
import Derived.Laws.OwnMore
import Derived.Deep.OwnRows
import Derived.Tactics
import Derived.Lib.ConvBytes
import Derived.Laws.Slices
import Derived.WalkKit
import Derived.KernelRfl
import Derived.RowKit3
import Derived.Deep.LoopGhost
import Derived.Deep.QuietTactic
import Derived.BigQuiet
import Derived.WideLaws
import Derived.Deep.DeepCutAuto
import Derived.Deep.CutBlock
import Derived.Deep.RegionHeld3
import Derived.Laws.Rows
import Derived.Lib.AppendStr
import Derived.ArgAppend
import Derived.Laws.IdiomCopy
import Derived.OrdersHeld
import Derived.Laws.BitsLemmas
import Derived.RowKit
import Derived.Test.YtmkjkcfmjfeheaaWWords
import Derived.Test.YtmkjkcfmjfeheaaWLast
import Derived.Test.YtmkjkcfmjfeheaaWTab
import Derived.Test.YtmkjkcfmjfeheaaWFour
import Derived.Test.YtmkjkcfmjfeheaaWQPut
import Derived.Test.YtmkjkcfmjfeheaaWApart
import Derived.Test.YtmkjkcfmjfeheaaWArr
import Derived.Test.YtmkjkcfmjfeheaaWZeros
import Derived.Test.YtmkjkcfmjfeheaaWFoot
import Derived.Test.YtmkjkcfmjfeheaaWKept
import Derived.Test.YtmkjkcfmjfeheaaWShare
import Derived.Test.YtmkjkcfmjfeheaaWN
import Derived.Test.YtmkjkcfmjfeheaaWFootNe
import Derived.Test.YtmkjkcfmjfeheaaWAt
import Derived.Test.YtmkjkcfmjfeheaaWEqStruct
import Derived.Test.YtmkjkcfmjfeheaaWRepsOne
import Derived.Test.YtmkjkcfmjfeheaaWInv
import Derived.Test.YtmkjkcfmjfeheaaWInvWords
import Derived.Test.YtmkjkcfmjfeheaaWGuard
import Derived.Test.YtmkjkcfmjfeheaaWNEv
import Derived.Test.YtmkjkcfmjfeheaaWMore
namespace Go.Proofs.Ytmkjkcfmjfeheaa.QFnExactMeanDeuce
open Go.RowKit Go.Proofs.YtmkjkcfmjfeheaaW.PrintWords Go.Proofs.YtmkjkcfmjfeheaaW.PrintLast Go.Proofs.YtmkjkcfmjfeheaaW.PrintMore
attribute [local go_sem] max2_int min2_int max_two min_two max_three min_three max_four min_four   -- for this text's walks alone
set_option linter.unusedVariables false
set_option linter.unusedSimpArgs false



def errW : Option Int → Value
  | none => .nilIface
  | some c => .iface 0 (.int .i64 c)
theorem errW_none : errW none = .nilIface := rfl
theorem errW_some (c : Int) : errW (some c) = .iface 0 (.int .i64 c) := rfl

theorem info61 : (Try.prog.info? 61).map (fun i => (i.zero, i.size, i.bytes)) = some (some (.int .u32 0), 1, 4) := by kernel_rfl
-- the values' own types

end Go.Proofs.Ytmkjkcfmjfeheaa.QFnExactMeanDeuce
