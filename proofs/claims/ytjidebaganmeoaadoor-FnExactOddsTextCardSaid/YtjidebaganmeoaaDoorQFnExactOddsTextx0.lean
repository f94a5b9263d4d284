-- Written by a program of this session (wip/tools/gprint.sh) out of the translation, with some contracts given by hand.
import Derived.Test.YtjidebaganmeoaaDoorProg
import Derived.Below
import Derived.Deep.Draws
import Derived.Deep.AppendLies
import Derived.Maps.AppendAt
import Derived.OwnWalk
import Derived.Laws.BytesArg
import Derived.Laws.MakeOwn
import Derived.Laws.OwnMore
import Derived.Deep.OwnRows
import Derived.Tactics
import Derived.Lib.ConvBytes
import Derived.Laws.Slices
import Derived.WalkKit
import Derived.KernelRfl
import Derived.RowKit3
import Derived.Deep.LoopGhost
import Derived.Deep.QuietTactic
import Derived.BigQuiet
import Derived.WideLaws
import Derived.Deep.DeepCutAuto
import Derived.Deep.CutBlock
import Derived.Deep.RegionHeld3
import Derived.Laws.Rows
import Derived.Lib.AppendStr
import Derived.ArgAppend
import Derived.Laws.IdiomCopy
import Derived.OrdersHeld
import Derived.Laws.BitsLemmas
import Derived.RowKit
import Derived.Test.YtjidebaganmeoaaDoorWWords
import Derived.Test.YtjidebaganmeoaaDoorWLast
import Derived.Test.YtjidebaganmeoaaDoorWTab
import Derived.Test.YtjidebaganmeoaaDoorWFour
import Derived.Test.YtjidebaganmeoaaDoorWQPut
import Derived.Test.YtjidebaganmeoaaDoorWApart
import Derived.Test.YtjidebaganmeoaaDoorWArr
import Derived.Test.YtjidebaganmeoaaDoorWZeros
import Derived.Test.YtjidebaganmeoaaDoorWFoot
import Derived.Test.YtjidebaganmeoaaDoorWKept
import Derived.Test.YtjidebaganmeoaaDoorWShare
import Derived.Test.YtjidebaganmeoaaDoorWN
import Derived.Test.YtjidebaganmeoaaDoorWFootNe
import Derived.Test.YtjidebaganmeoaaDoorWAt
import Derived.Test.YtjidebaganmeoaaDoorWEqStruct
import Derived.Test.YtjidebaganmeoaaDoorWRepsOne
import Derived.Test.YtjidebaganmeoaaDoorWInv
import Derived.Test.YtjidebaganmeoaaDoorWInvWords
import Derived.Test.YtjidebaganmeoaaDoorWGuard
import Derived.Test.YtjidebaganmeoaaDoorWNEv
import Derived.Test.YtjidebaganmeoaaDoorWMore
namespace Go.Proofs.YtjidebaganmeoaaDoor.QFnExactOddsText
open Go.RowKit Go.Proofs.YtjidebaganmeoaaDoorW.PrintWords Go.Proofs.YtjidebaganmeoaaDoorW.PrintLast Go.Proofs.YtjidebaganmeoaaDoorW.PrintMore
attribute [local go_sem] max2_int min2_int max_two min_two max_three min_three max_four min_four   -- for this text's walks alone
set_option linter.unusedVariables false
set_option linter.unusedSimpArgs false



def errW : Option Int → Value
  | none => .nilIface
  | some c => .iface 0 (.int .i64 c)
theorem errW_none : errW none = .nilIface := rfl
theorem errW_some (c : Int) : errW (some c) = .iface 0 (.int .i64 c) := rfl

theorem info5 : (Tryd.prog.info? 5).map (fun i => (i.zero, i.size, i.bytes)) = some (some (.int .u8 0), 1, 1) := by kernel_rfl
-- the values' own types

end Go.Proofs.YtjidebaganmeoaaDoor.QFnExactOddsText
