-- Written by a program of this session (wip/tools/gprint.sh) out of the translation, with some contracts given by hand.
import Derived.Test.YtolcneiniojdfaaQFnExactAddResultx0
import Derived.Test.YtolcneiniojdfaaQFnExactAddResultx1
import Derived.Test.YtolcneiniojdfaaQFnExactAddResultx2
import Derived.Test.YtolcneiniojdfaaQFnExactAddResultx3
import Derived.Test.YtolcneiniojdfaaQFnExactAddResultx4
import Derived.Test.YtolcneiniojdfaaQFnExactAddResultx5
import Derived.Test.YtolcneiniojdfaaQFnExactAddResultx6
namespace Go.Proofs.Ytolcneiniojdfaa.QFnExactAddResult
open Go.RowKit Go.Proofs.YtolcneiniojdfaaW.PrintWords Go.Proofs.YtolcneiniojdfaaW.PrintLast Go.Proofs.YtolcneiniojdfaaW.PrintMore
attribute [local go_sem] max2_int min2_int max_two min_two max_three min_three max_four min_four   -- for this text's walks alone
set_option linter.unusedVariables false
set_option linter.unusedSimpArgs false

end Go.Proofs.Ytolcneiniojdfaa.QFnExactAddResult
