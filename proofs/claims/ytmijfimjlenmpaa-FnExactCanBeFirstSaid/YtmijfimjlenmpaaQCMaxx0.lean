-- Written by a program of this session (wip/tools/gprint.sh) out of the translation, with some contracts given by hand.
import Derived.Test.YtmijfimjlenmpaaProg
import Derived.Below
import Derived.Deep.Draws
import Derived.Deep.AppendLies
import Derived.Maps.AppendAt
import Derived.OwnWalk
import Derived.Laws.BytesArg
import Derived.Laws.MakeOwn
import Derived.Laws.OwnMore
import Derived.Deep.OwnRows
import Derived.Tactics
import Derived.Lib.ConvBytes
import Derived.Laws.Slices
import Derived.WalkKit
import Derived.KernelRfl
import Derived.RowKit3
import Derived.Deep.LoopGhost
import Derived.Deep.QuietTactic
import Derived.BigQuiet
import Derived.WideLaws
import Derived.Deep.DeepCutAuto
import Derived.Deep.CutBlock
import Derived.Deep.RegionHeld3
import Derived.Laws.Rows
import Derived.Lib.AppendStr
import Derived.ArgAppend
import Derived.Laws.IdiomCopy
import Derived.OrdersHeld
import Derived.Laws.BitsLemmas
import Derived.RowKit
import Derived.Test.YtmijfimjlenmpaaWWords
import Derived.Test.YtmijfimjlenmpaaWLast
import Derived.Test.YtmijfimjlenmpaaWTab
import Derived.Test.YtmijfimjlenmpaaWFour
import Derived.Test.YtmijfimjlenmpaaWQPut
import Derived.Test.YtmijfimjlenmpaaWApart
import Derived.Test.YtmijfimjlenmpaaWArr
import Derived.Test.YtmijfimjlenmpaaWZeros
import Derived.Test.YtmijfimjlenmpaaWFoot
import Derived.Test.YtmijfimjlenmpaaWKept
import Derived.Test.YtmijfimjlenmpaaWShare
import Derived.Test.YtmijfimjlenmpaaWN
import Derived.Test.YtmijfimjlenmpaaWFootNe
import Derived.Test.YtmijfimjlenmpaaWAt
import Derived.Test.YtmijfimjlenmpaaWEqStruct
import Derived.Test.YtmijfimjlenmpaaWRepsOne
import Derived.Test.YtmijfimjlenmpaaWInv
import Derived.Test.YtmijfimjlenmpaaWInvWords
import Derived.Test.YtmijfimjlenmpaaWGuard
import Derived.Test.YtmijfimjlenmpaaWNEv
import Derived.Test.YtmijfimjlenmpaaWMore
namespace Go.Proofs.Ytmijfimjlenmpaa.QCMax
open Go.RowKit Go.Proofs.YtmijfimjlenmpaaW.PrintWords Go.Proofs.YtmijfimjlenmpaaW.PrintLast Go.Proofs.YtmijfimjlenmpaaW.PrintMore
attribute [local go_sem] max2_int min2_int max_two min_two max_three min_three max_four min_four   -- for this text's walks alone
set_option linter.unusedVariables false
set_option linter.unusedSimpArgs false



def errW : Option Int → Value
  | none => .nilIface
  | some c => .iface 0 (.int .i64 c)
theorem errW_none : errW none = .nilIface := rfl
theorem errW_some (c : Int) : errW (some c) = .iface 0 (.int .i64 c) := rfl

-- the values' own types

end Go.Proofs.Ytmijfimjlenmpaa.QCMax
