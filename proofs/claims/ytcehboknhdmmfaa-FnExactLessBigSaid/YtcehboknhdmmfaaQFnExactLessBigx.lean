import Derived.Test.YtcehboknhdmmfaaQFnExactLessBigx0
import Derived.Test.YtcehboknhdmmfaaQFnExactLessBigx1
import Derived.Test.YtcehboknhdmmfaaQFnExactLessBigx2
import Derived.Test.YtcehboknhdmmfaaQFnExactLessBigx3
import Derived.Test.YtcehboknhdmmfaaQFnExactLessBigx4
import Derived.Test.YtcehboknhdmmfaaQFnExactLessBigx5
namespace Go.Proofs.Ytcehboknhdmmfaa.QFnExactLessBig
open Go.RowKit Go.Proofs.YtcehboknhdmmfaaW.PrintWords Go.Proofs.YtcehboknhdmmfaaW.PrintLast Go.Proofs.YtcehboknhdmmfaaW.PrintMore
attribute [local go_sem] max2_int min2_int max_two min_two max_three min_three max_four min_four   -- for this text's walks alone
set_option linter.unusedVariables false
set_option linter.unusedSimpArgs false

end Go.Proofs.Ytcehboknhdmmfaa.QFnExactLessBig
