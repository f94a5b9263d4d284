-- Written by a program of this session (wip/tools/gprintS.sh) out of the translation, with some contracts given by hand.
import Derived.Test.YtmkjkcfmjfeheaaQFnExactMeanDeucex0
import Derived.Test.YtmkjkcfmjfeheaaQFnExactServeChancex1
import Derived.Test.YtmkjkcfmjfeheaaQFnExactServeChancex2
import Derived.Test.YtmkjkcfmjfeheaaQFnExactServeChancex3
namespace Go.Proofs.Ytmkjkcfmjfeheaa.QFnExactMeanDeuce
open Go.RowKit Go.Proofs.YtmkjkcfmjfeheaaW.PrintWords Go.Proofs.YtmkjkcfmjfeheaaW.PrintLast Go.Proofs.YtmkjkcfmjfeheaaW.PrintMore
attribute [local go_sem] max2_int min2_int max_two min_two max_three min_three max_four min_four   -- for this text's walks alone
set_option linter.unusedVariables false
set_option linter.unusedSimpArgs false

end Go.Proofs.Ytmkjkcfmjfeheaa.QFnExactMeanDeuce
