-- Written by a program of this session (wip/tools/gprint.sh) out of the translation, with some contracts given by hand.
import Derived.Test.YtahejnleejiobaaDoorQFnExactParseKindsx0
import Derived.Test.YtahejnleejiobaaDoorQFnExactParseKindsx1
import Derived.Test.YtahejnleejiobaaDoorQFnExactParseKindsx2
import Derived.Test.YtahejnleejiobaaDoorQFnExactParseKindsx3
import Derived.Test.YtahejnleejiobaaDoorQFnExactParseKindsx4
namespace Go.Proofs.YtahejnleejiobaaDoor.QFnExactParseKinds
open Go.RowKit Go.Proofs.YtahejnleejiobaaDoorW.PrintWords Go.Proofs.YtahejnleejiobaaDoorW.PrintLast Go.Proofs.YtahejnleejiobaaDoorW.PrintMore
attribute [local go_sem] max2_int min2_int max_two min_two max_three min_three max_four min_four   -- for this text's walks alone
set_option linter.unusedVariables false
set_option linter.unusedSimpArgs false

end Go.Proofs.YtahejnleejiobaaDoor.QFnExactParseKinds
