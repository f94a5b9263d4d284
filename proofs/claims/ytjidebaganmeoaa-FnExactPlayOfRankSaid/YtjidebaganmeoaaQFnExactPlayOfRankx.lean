-- Written by a program of this session (wip/tools/gprint.sh) out of the translation, with some contracts given by hand.
import Derived.Test.YtjidebaganmeoaaQFnExactPlayOfRankx0
import Derived.Test.YtjidebaganmeoaaQFnExactPlayOfRankx1
import Derived.Test.YtjidebaganmeoaaQFnExactPlayOfRankx2
import Derived.Test.YtjidebaganmeoaaQFnExactPlayOfRankx3
namespace Go.Proofs.Ytjidebaganmeoaa.QFnExactPlayOfRank
open Go.RowKit Go.Proofs.YtjidebaganmeoaaW.PrintWords Go.Proofs.YtjidebaganmeoaaW.PrintLast Go.Proofs.YtjidebaganmeoaaW.PrintMore
attribute [local go_sem] max2_int min2_int max_two min_two max_three min_three max_four min_four   -- for this text's walks alone
set_option linter.unusedVariables false
set_option linter.unusedSimpArgs false

end Go.Proofs.Ytjidebaganmeoaa.QFnExactPlayOfRank
