import Derived.Test.YticchbgbbnpgoaaQFnExactShortestTapsx0
import Derived.Test.YticchbgbbnpgoaaQFnExactShortestTapsx1
import Derived.Test.YticchbgbbnpgoaaQFnExactShortestTapsx2
import Derived.Test.YticchbgbbnpgoaaQFnExactShortestTapsx3
import Derived.Test.YticchbgbbnpgoaaQFnExactShortestTapsx4
import Derived.Test.YticchbgbbnpgoaaQFnExactShortestTapsx5
namespace Go.Proofs.Yticchbgbbnpgoaa.QFnExactShortestTaps
open Go.RowKit Go.Proofs.YticchbgbbnpgoaaW.PrintWords Go.Proofs.YticchbgbbnpgoaaW.PrintLast Go.Proofs.YticchbgbbnpgoaaW.PrintMore
attribute [local go_sem] max2_int min2_int max_two min_two max_three min_three max_four min_four   -- for this text's walks alone
set_option linter.unusedVariables false
set_option linter.unusedSimpArgs false

end Go.Proofs.Yticchbgbbnpgoaa.QFnExactShortestTaps
