-- PRINTED BY print.sh 35421559b90ae4d0a3588c463048766b98c2df88dd9212a6774a882060cdf62d: not written by this session
import Derived.Test.YtfjgjljkfhpfbaaDoorProg
import Derived.Below
import Derived.Deep.Draws
import Derived.Deep.AppendLies
import Derived.Maps.AppendAt
import Derived.OwnWalk
import Derived.Laws.BytesArg
import Derived.Laws.MakeOwn
import Derived.Laws.OwnMore
import Derived.Deep.OwnRows
import Derived.Tactics
import Derived.Lib.ConvBytes
import Derived.Laws.Slices
import Derived.WalkKit
import Derived.KernelRfl
import Derived.RowKit3
import Derived.Deep.LoopGhost
import Derived.Deep.QuietTactic
import Derived.BigQuiet
import Derived.WideLaws
import Derived.Deep.DeepCutAuto
import Derived.Deep.CutBlock
import Derived.Deep.RegionHeld3
import Derived.Laws.Rows
import Derived.Lib.AppendStr
import Derived.ArgAppend
import Derived.Laws.IdiomCopy
import Derived.OrdersHeld
import Derived.Laws.BitsLemmas
import Derived.RowKit
import Derived.Test.YtfjgjljkfhpfbaaDoorWWords
import Derived.Test.YtfjgjljkfhpfbaaDoorWLast
import Derived.Test.YtfjgjljkfhpfbaaDoorWTab
import Derived.Test.YtfjgjljkfhpfbaaDoorWFour
import Derived.Test.YtfjgjljkfhpfbaaDoorWQPut
import Derived.Test.YtfjgjljkfhpfbaaDoorWApart
import Derived.Test.YtfjgjljkfhpfbaaDoorWArr
import Derived.Test.YtfjgjljkfhpfbaaDoorWZeros
import Derived.Test.YtfjgjljkfhpfbaaDoorWFoot
import Derived.Test.YtfjgjljkfhpfbaaDoorWKept
import Derived.Test.YtfjgjljkfhpfbaaDoorWShare
import Derived.Test.YtfjgjljkfhpfbaaDoorWN
import Derived.Test.YtfjgjljkfhpfbaaDoorWFootNe
import Derived.Test.YtfjgjljkfhpfbaaDoorWAt
import Derived.Test.YtfjgjljkfhpfbaaDoorWEqStruct
import Derived.Test.YtfjgjljkfhpfbaaDoorWRepsOne
import Derived.Test.YtfjgjljkfhpfbaaDoorWInv
import Derived.Test.YtfjgjljkfhpfbaaDoorWInvWords
import Derived.Test.YtfjgjljkfhpfbaaDoorWGuard
import Derived.Test.YtfjgjljkfhpfbaaDoorWNEv
import Derived.Test.YtfjgjljkfhpfbaaDoorWMore
namespace Go.Proofs.YtfjgjljkfhpfbaaDoor.PFnExactTurnPlay
open Go.RowKit Go.Proofs.YtfjgjljkfhpfbaaDoorW.PrintWords Go.Proofs.YtfjgjljkfhpfbaaDoorW.PrintLast Go.Proofs.YtfjgjljkfhpfbaaDoorW.PrintMore
attribute [local go_sem] max2_int min2_int max_two min_two max_three min_three max_four min_four   -- for this text's walks alone
set_option linter.unusedVariables false
set_option linter.unusedSimpArgs false



def errW : Option Int → Value
  | none => .nilIface
  | some c => .iface 0 (.int .i64 c)
theorem errW_none : errW none = .nilIface := rfl
theorem errW_some (c : Int) : errW (some c) = .iface 0 (.int .i64 c) := rfl

-- the values' own types

end Go.Proofs.YtfjgjljkfhpfbaaDoor.PFnExactTurnPlay
