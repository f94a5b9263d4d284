-- Written by a program of this session (wip/tools/gprint.sh) out of the translation, with some contracts given by hand.
import Derived.Test.YtfjgjljkfhpfbaaDoorQFnExactTurnPlayx0
import Derived.Test.YtfjgjljkfhpfbaaDoorQFnExactTurnPlayx1
namespace Go.Proofs.YtfjgjljkfhpfbaaDoor.QFnExactTurnPlay
open Go.RowKit Go.Proofs.YtfjgjljkfhpfbaaDoorW.PrintWords Go.Proofs.YtfjgjljkfhpfbaaDoorW.PrintLast Go.Proofs.YtfjgjljkfhpfbaaDoorW.PrintMore
attribute [local go_sem] max2_int min2_int max_two min_two max_three min_three max_four min_four   -- for this text's walks alone
set_option linter.unusedVariables false
set_option linter.unusedSimpArgs false

end Go.Proofs.YtfjgjljkfhpfbaaDoor.QFnExactTurnPlay
