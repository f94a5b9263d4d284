-- Written by a program of this session (wip/tools/gprint.sh) out of the translation, with some contracts given by hand.
import Derived.Test.YtlfbpidklpjieaaDoorQFnExactMatchOfx0
import Derived.Test.YtlfbpidklpjieaaDoorQFnExactMatchOfx1
import Derived.Test.YtlfbpidklpjieaaDoorQFnExactMatchOfx2
import Derived.Test.YtlfbpidklpjieaaDoorQFnExactMatchOfx3
namespace Go.Proofs.YtlfbpidklpjieaaDoor.QFnExactMatchOf
open Go.RowKit Go.Proofs.YtlfbpidklpjieaaDoorW.PrintWords Go.Proofs.YtlfbpidklpjieaaDoorW.PrintLast Go.Proofs.YtlfbpidklpjieaaDoorW.PrintMore
attribute [local go_sem] max2_int min2_int max_two min_two max_three min_three max_four min_four   -- for this text's walks alone
set_option linter.unusedVariables false
set_option linter.unusedSimpArgs false

end Go.Proofs.YtlfbpidklpjieaaDoor.QFnExactMatchOf
