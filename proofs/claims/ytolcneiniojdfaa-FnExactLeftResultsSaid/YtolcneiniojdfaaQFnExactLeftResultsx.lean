-- Written by a program of this session (wip/tools/gprint.sh) out of the translation, with some contracts given by hand.
import Derived.Test.YtolcneiniojdfaaQFnExactLeftResultsx0
import Derived.Test.YtolcneiniojdfaaQFnExactLeftResultsx1
import Derived.Test.YtolcneiniojdfaaQFnExactLeftResultsx2
import Derived.Test.YtolcneiniojdfaaQFnExactLeftResultsx3
import Derived.Test.YtolcneiniojdfaaQFnExactLeftResultsx4
import Derived.Test.YtolcneiniojdfaaQFnExactLeftResultsx5
namespace Go.Proofs.Ytolcneiniojdfaa.QFnExactLeftResults
open Go.RowKit Go.Proofs.YtolcneiniojdfaaW.PrintWords Go.Proofs.YtolcneiniojdfaaW.PrintLast Go.Proofs.YtolcneiniojdfaaW.PrintMore
attribute [local go_sem] max2_int min2_int max_two min_two max_three min_three max_four min_four   -- for this text's walks alone
set_option linter.unusedVariables false
set_option linter.unusedSimpArgs false

end Go.Proofs.Ytolcneiniojdfaa.QFnExactLeftResults
