import Derived.Test.YtcehboknhdmmfaaQFnExactDigitsOfx0
import Derived.Test.YtcehboknhdmmfaaQFnExactDigitsOfx1
import Derived.Test.YtcehboknhdmmfaaQFnExactDigitsOfx2
import Derived.Test.YtcehboknhdmmfaaQFnExactDigitsOfx3
import Derived.Test.YtcehboknhdmmfaaQFnExactDigitsOfx4
import Derived.Test.YtcehboknhdmmfaaQFnExactDigitsOfx5
import Derived.Test.YtcehboknhdmmfaaQFnExactDigitsOfx6
namespace Go.Proofs.Ytcehboknhdmmfaa.QFnExactDigitsOf
open Go.RowKit Go.Proofs.YtcehboknhdmmfaaW.PrintWords Go.Proofs.YtcehboknhdmmfaaW.PrintLast Go.Proofs.YtcehboknhdmmfaaW.PrintMore
attribute [local go_sem] max2_int min2_int max_two min_two max_three min_three max_four min_four   -- for this text's walks alone
set_option linter.unusedVariables false
set_option linter.unusedSimpArgs false

end Go.Proofs.Ytcehboknhdmmfaa.QFnExactDigitsOf
