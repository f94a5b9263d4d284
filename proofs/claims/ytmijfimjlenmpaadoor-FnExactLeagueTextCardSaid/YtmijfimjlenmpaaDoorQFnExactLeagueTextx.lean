-- Written by a program of this session (wip/tools/gprint.sh) out of the translation, with some contracts given by hand.
import Derived.Test.YtmijfimjlenmpaaDoorQFnExactLeagueTextx0
import Derived.Test.YtmijfimjlenmpaaDoorQFnExactLeagueTextx1
import Derived.Test.YtmijfimjlenmpaaDoorQFnExactLeagueTextx2
import Derived.Test.YtmijfimjlenmpaaDoorQFnExactLeagueTextx3
import Derived.Test.YtmijfimjlenmpaaDoorQFnExactLeagueTextx4
import Derived.Test.YtmijfimjlenmpaaDoorQFnExactLeagueTextx5
import Derived.Test.YtmijfimjlenmpaaDoorQFnExactLeagueTextx6
namespace Go.Proofs.YtmijfimjlenmpaaDoor.QFnExactLeagueText
open Go.RowKit Go.Proofs.YtmijfimjlenmpaaDoorW.PrintWords Go.Proofs.YtmijfimjlenmpaaDoorW.PrintLast Go.Proofs.YtmijfimjlenmpaaDoorW.PrintMore
attribute [local go_sem] max2_int min2_int max_two min_two max_three min_three max_four min_four   -- for this text's walks alone
set_option linter.unusedVariables false
set_option linter.unusedSimpArgs false

end Go.Proofs.YtmijfimjlenmpaaDoor.QFnExactLeagueText
