-- Written by a program of this session (wip/tools/gprint.sh) out of the translation, with some contracts given by hand.
import Derived.Test.YtjidebaganmeoaaDoorQFnExactOddsTextx0
import Derived.Test.YtjidebaganmeoaaDoorQFnExactOddsTextx1
namespace Go.Proofs.YtjidebaganmeoaaDoor.QFnExactOddsText
open Go.RowKit Go.Proofs.YtjidebaganmeoaaDoorW.PrintWords Go.Proofs.YtjidebaganmeoaaDoorW.PrintLast Go.Proofs.YtjidebaganmeoaaDoorW.PrintMore
attribute [local go_sem] max2_int min2_int max_two min_two max_three min_three max_four min_four   -- for this text's walks alone
set_option linter.unusedVariables false
set_option linter.unusedSimpArgs false

end Go.Proofs.YtjidebaganmeoaaDoor.QFnExactOddsText
