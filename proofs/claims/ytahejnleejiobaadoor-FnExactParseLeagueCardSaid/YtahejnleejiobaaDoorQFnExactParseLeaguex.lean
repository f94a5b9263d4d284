-- Written by a program of this session (wip/tools/gprint.sh) out of the translation, with some contracts given by hand.
import Derived.Test.YtahejnleejiobaaDoorQFnExactParseLeaguex0
import Derived.Test.YtahejnleejiobaaDoorQFnExactParseLeaguex1
import Derived.Test.YtahejnleejiobaaDoorQFnExactParseLeaguex2
import Derived.Test.YtahejnleejiobaaDoorQFnExactParseLeaguex3
import Derived.Test.YtahejnleejiobaaDoorQFnExactParseLeaguex4
import Derived.Test.YtahejnleejiobaaDoorQFnExactParseLeaguex5
import Derived.Test.YtahejnleejiobaaDoorQFnExactParseLeaguex6
namespace Go.Proofs.YtahejnleejiobaaDoor.QFnExactParseLeague
open Go.RowKit Go.Proofs.YtahejnleejiobaaDoorW.PrintWords Go.Proofs.YtahejnleejiobaaDoorW.PrintLast Go.Proofs.YtahejnleejiobaaDoorW.PrintMore
attribute [local go_sem] max2_int min2_int max_two min_two max_three min_three max_four min_four   -- for this text's walks alone
set_option linter.unusedVariables false
set_option linter.unusedSimpArgs false

end Go.Proofs.YtahejnleejiobaaDoor.QFnExactParseLeague
