-- Written by a program of this session (wip/tools/gprint.sh) out of the translation, with some contracts given by hand.
import Derived.Test.YtolcneiniojdfaaQFnExactTurnResultsx0
import Derived.Test.YtolcneiniojdfaaQFnExactTurnResultsx1
import Derived.Test.YtolcneiniojdfaaQFnExactTurnResultsx2
import Derived.Test.YtolcneiniojdfaaQFnExactTurnResultsx3
import Derived.Test.YtolcneiniojdfaaQFnExactTurnResultsx4
namespace Go.Proofs.Ytolcneiniojdfaa.QFnExactTurnResults
open Go.RowKit Go.Proofs.YtolcneiniojdfaaW.PrintWords Go.Proofs.YtolcneiniojdfaaW.PrintLast Go.Proofs.YtolcneiniojdfaaW.PrintMore
attribute [local go_sem] max2_int min2_int max_two min_two max_three min_three max_four min_four   -- for this text's walks alone
set_option linter.unusedVariables false
set_option linter.unusedSimpArgs false

end Go.Proofs.Ytolcneiniojdfaa.QFnExactTurnResults
