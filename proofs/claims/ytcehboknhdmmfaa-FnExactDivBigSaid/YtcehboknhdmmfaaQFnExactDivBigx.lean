import Derived.Test.YtcehboknhdmmfaaQFnExactDivBigx0
import Derived.Test.YtcehboknhdmmfaaQFnExactDivBigx1
import Derived.Test.YtcehboknhdmmfaaQFnExactDivBigx2
import Derived.Test.YtcehboknhdmmfaaQFnExactDivBigx3
import Derived.Test.YtcehboknhdmmfaaQFnExactDivBigx4
import Derived.Test.YtcehboknhdmmfaaQFnExactDivBigx5
import Derived.Test.YtcehboknhdmmfaaQFnExactDivBigx6
import Derived.Test.YtcehboknhdmmfaaQFnExactDivBigx7
namespace Go.Proofs.Ytcehboknhdmmfaa.QFnExactDivBig
open Go.RowKit Go.Proofs.YtcehboknhdmmfaaW.PrintWords Go.Proofs.YtcehboknhdmmfaaW.PrintLast Go.Proofs.YtcehboknhdmmfaaW.PrintMore
attribute [local go_sem] max2_int min2_int max_two min_two max_three min_three max_four min_four   -- for this text's walks alone
set_option linter.unusedVariables false
set_option linter.unusedSimpArgs false

end Go.Proofs.Ytcehboknhdmmfaa.QFnExactDivBig
