import Derived.Test.YtcehboknhdmmfaaQFnExactShiftBigx0
import Derived.Test.YtcehboknhdmmfaaQFnExactShiftBigx1
import Derived.Test.YtcehboknhdmmfaaQFnExactShiftBigx2
import Derived.Test.YtcehboknhdmmfaaQFnExactShiftBigx3
import Derived.Test.YtcehboknhdmmfaaQFnExactShiftBigx4
import Derived.Test.YtcehboknhdmmfaaQFnExactShiftBigx5
import Derived.Test.YtcehboknhdmmfaaQFnExactShiftBigx6
import Derived.Test.YtcehboknhdmmfaaQFnExactShiftBigx7
import Derived.Test.YtcehboknhdmmfaaQFnExactShiftBigx8
namespace Go.Proofs.Ytcehboknhdmmfaa.QFnExactShiftBig
open Go.RowKit Go.Proofs.YtcehboknhdmmfaaW.PrintWords Go.Proofs.YtcehboknhdmmfaaW.PrintLast Go.Proofs.YtcehboknhdmmfaaW.PrintMore
attribute [local go_sem] max2_int min2_int max_two min_two max_three min_three max_four min_four   -- for this text's walks alone
set_option linter.unusedVariables false
set_option linter.unusedSimpArgs false

end Go.Proofs.Ytcehboknhdmmfaa.QFnExactShiftBig
