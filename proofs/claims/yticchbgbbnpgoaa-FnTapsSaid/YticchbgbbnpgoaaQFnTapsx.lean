import Derived.Test.YticchbgbbnpgoaaQFnTapsx0
import Derived.Test.YticchbgbbnpgoaaQFnTapsx1
import Derived.Test.YticchbgbbnpgoaaQFnTapsx2
import Derived.Test.YticchbgbbnpgoaaQFnTapsx3
import Derived.Test.YticchbgbbnpgoaaQFnTapsx4
import Derived.Test.YticchbgbbnpgoaaQFnTapsx5
import Derived.Test.YticchbgbbnpgoaaQFnTapsx6
import Derived.Test.YticchbgbbnpgoaaQFnTapsx7
import Derived.Test.YticchbgbbnpgoaaQFnTapsx8
namespace Go.Proofs.Yticchbgbbnpgoaa.QFnTaps
open Go.RowKit Go.Proofs.YticchbgbbnpgoaaW.PrintWords Go.Proofs.YticchbgbbnpgoaaW.PrintLast Go.Proofs.YticchbgbbnpgoaaW.PrintMore
attribute [local go_sem] max2_int min2_int max_two min_two max_three min_three max_four min_four   -- for this text's walks alone
set_option linter.unusedVariables false
set_option linter.unusedSimpArgs false

end Go.Proofs.Yticchbgbbnpgoaa.QFnTaps
