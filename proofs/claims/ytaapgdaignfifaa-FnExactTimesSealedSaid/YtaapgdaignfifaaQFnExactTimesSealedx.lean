import Derived.Test.YtaapgdaignfifaaQFnExactTimesSealedx0
import Derived.Test.YtaapgdaignfifaaQFnExactTimesSealedx1
import Derived.Test.YtaapgdaignfifaaQFnExactTimesSealedx2
namespace Go.Proofs.Ytaapgdaignfifaa.QFnExactTimesSealed
open Go.RowKit Go.Proofs.YtaapgdaignfifaaW.PrintWords Go.Proofs.YtaapgdaignfifaaW.PrintLast Go.Proofs.YtaapgdaignfifaaW.PrintMore
attribute [local go_sem] max2_int min2_int max_two min_two max_three min_three max_four min_four   -- for this text's walks alone
set_option linter.unusedVariables false
set_option linter.unusedSimpArgs false

end Go.Proofs.Ytaapgdaignfifaa.QFnExactTimesSealed
