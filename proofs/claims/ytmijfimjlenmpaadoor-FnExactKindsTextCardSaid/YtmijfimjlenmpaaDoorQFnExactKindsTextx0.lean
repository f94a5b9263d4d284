-- Written by a program of this session (wip/tools/gprint.sh) out of the translation, with some contracts given by hand.
import Derived.Test.YtmijfimjlenmpaaDoorProg
import Derived.Below
import Derived.Deep.Draws
import Derived.Deep.AppendLies
import Derived.Maps.AppendAt
import Derived.OwnWalk
import Derived.Laws.BytesArg
import Derived.Laws.MakeOwn
import Derived.Laws.OwnMore
import Derived.Deep.OwnRows
import Derived.Tactics
import Derived.Lib.ConvBytes
import Derived.Laws.Slices
import Derived.WalkKit
import Derived.KernelRfl
import Derived.RowKit3
import Derived.Deep.LoopGhost
import Derived.Deep.QuietTactic
import Derived.BigQuiet
import Derived.WideLaws
import Derived.Deep.DeepCutAuto
import Derived.Deep.CutBlock
import Derived.Deep.RegionHeld3
import Derived.Laws.Rows
import Derived.Lib.AppendStr
import Derived.ArgAppend
import Derived.Laws.IdiomCopy
import Derived.OrdersHeld
import Derived.Laws.BitsLemmas
import Derived.RowKit
import Derived.Test.YtmijfimjlenmpaaDoorWWords
import Derived.Test.YtmijfimjlenmpaaDoorWLast
import Derived.Test.YtmijfimjlenmpaaDoorWTab
import Derived.Test.YtmijfimjlenmpaaDoorWFour
import Derived.Test.YtmijfimjlenmpaaDoorWQPut
import Derived.Test.YtmijfimjlenmpaaDoorWApart
import Derived.Test.YtmijfimjlenmpaaDoorWArr
import Derived.Test.YtmijfimjlenmpaaDoorWZeros
import Derived.Test.YtmijfimjlenmpaaDoorWFoot
import Derived.Test.YtmijfimjlenmpaaDoorWKept
import Derived.Test.YtmijfimjlenmpaaDoorWShare
import Derived.Test.YtmijfimjlenmpaaDoorWN
import Derived.Test.YtmijfimjlenmpaaDoorWFootNe
import Derived.Test.YtmijfimjlenmpaaDoorWAt
import Derived.Test.YtmijfimjlenmpaaDoorWEqStruct
import Derived.Test.YtmijfimjlenmpaaDoorWRepsOne
import Derived.Test.YtmijfimjlenmpaaDoorWInv
import Derived.Test.YtmijfimjlenmpaaDoorWInvWords
import Derived.Test.YtmijfimjlenmpaaDoorWGuard
import Derived.Test.YtmijfimjlenmpaaDoorWNEv
import Derived.Test.YtmijfimjlenmpaaDoorWMore
namespace Go.Proofs.YtmijfimjlenmpaaDoor.QFnExactKindsText
open Go.RowKit Go.Proofs.YtmijfimjlenmpaaDoorW.PrintWords Go.Proofs.YtmijfimjlenmpaaDoorW.PrintLast Go.Proofs.YtmijfimjlenmpaaDoorW.PrintMore
attribute [local go_sem] max2_int min2_int max_two min_two max_three min_three max_four min_four   -- for this text's walks alone
set_option linter.unusedVariables false
set_option linter.unusedSimpArgs false



def errW : Option Int → Value
  | none => .nilIface
  | some c => .iface 0 (.int .i64 c)
theorem errW_none : errW none = .nilIface := rfl
theorem errW_some (c : Int) : errW (some c) = .iface 0 (.int .i64 c) := rfl

theorem info3 : (Tryd.prog.info? 3).map (fun i => (i.zero, i.size, i.bytes)) = some (some (.int .i64 0), 1, 8) := by kernel_rfl
theorem info5 : (Tryd.prog.info? 5).map (fun i => (i.zero, i.size, i.bytes)) = some (some (.int .u8 0), 1, 1) := by kernel_rfl
theorem info9 : (Tryd.prog.info? 9).map (fun i => (i.zero, i.size, i.bytes)) = some (some (.string ⟨#[]⟩), 1, 16) := by kernel_rfl
-- the values' own types

end Go.Proofs.YtmijfimjlenmpaaDoor.QFnExactKindsText
