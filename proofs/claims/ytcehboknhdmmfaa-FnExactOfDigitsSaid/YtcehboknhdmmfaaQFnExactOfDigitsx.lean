import Derived.Test.YtcehboknhdmmfaaQFnExactOfDigitsx0
import Derived.Test.YtcehboknhdmmfaaQFnExactOfDigitsx1
import Derived.Test.YtcehboknhdmmfaaQFnExactOfDigitsx2
import Derived.Test.YtcehboknhdmmfaaQFnExactOfDigitsx3
import Derived.Test.YtcehboknhdmmfaaQFnExactOfDigitsx4
import Derived.Test.YtcehboknhdmmfaaQFnExactOfDigitsx5
import Derived.Test.YtcehboknhdmmfaaQFnExactOfDigitsx6
namespace Go.Proofs.Ytcehboknhdmmfaa.QFnExactOfDigits
open Go.RowKit Go.Proofs.YtcehboknhdmmfaaW.PrintWords Go.Proofs.YtcehboknhdmmfaaW.PrintLast Go.Proofs.YtcehboknhdmmfaaW.PrintMore
attribute [local go_sem] max2_int min2_int max_two min_two max_three min_three max_four min_four   -- for this text's walks alone
set_option linter.unusedVariables false
set_option linter.unusedSimpArgs false

end Go.Proofs.Ytcehboknhdmmfaa.QFnExactOfDigits
