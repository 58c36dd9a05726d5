import Derived.Test.YtcehboknhdmmfaaQFnExactTimesBigx0
import Derived.Test.YtcehboknhdmmfaaQFnExactTimesBigx1
import Derived.Test.YtcehboknhdmmfaaQFnExactTimesBigx2
import Derived.Test.YtcehboknhdmmfaaQFnExactTimesBigx3
import Derived.Test.YtcehboknhdmmfaaQFnExactTimesBigx4
import Derived.Test.YtcehboknhdmmfaaQFnExactTimesBigx5
namespace Go.Proofs.Ytcehboknhdmmfaa.QFnExactTimesBig
open Go.RowKit Go.Proofs.YtcehboknhdmmfaaW.PrintWords Go.Proofs.YtcehboknhdmmfaaW.PrintLast Go.Proofs.YtcehboknhdmmfaaW.PrintMore
attribute [local go_sem] max2_int min2_int max_two min_two max_three min_three max_four min_four   -- for this text's walks alone
set_option linter.unusedVariables false
set_option linter.unusedSimpArgs false

end Go.Proofs.Ytcehboknhdmmfaa.QFnExactTimesBig
