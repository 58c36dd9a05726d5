import Derived.Test.YticchbgbbnpgoaaQFnStreamsx0
import Derived.Test.YticchbgbbnpgoaaQFnStreamsx1
import Derived.Test.YticchbgbbnpgoaaQFnStreamsx2
import Derived.Test.YticchbgbbnpgoaaQFnStreamsx3
import Derived.Test.YticchbgbbnpgoaaQFnStreamsx4
import Derived.Test.YticchbgbbnpgoaaQFnStreamsx5
import Derived.Test.YticchbgbbnpgoaaQFnStreamsx6
import Derived.Test.YticchbgbbnpgoaaQFnStreamsx7
import Derived.Test.YticchbgbbnpgoaaQFnStreamsx8
import Derived.Test.YticchbgbbnpgoaaQFnStreamsx9
import Derived.Test.YticchbgbbnpgoaaQFnStreamsx10
namespace Go.Proofs.Yticchbgbbnpgoaa.QFnStreams
open Go.RowKit Go.Proofs.YticchbgbbnpgoaaW.PrintWords Go.Proofs.YticchbgbbnpgoaaW.PrintLast Go.Proofs.YticchbgbbnpgoaaW.PrintMore
attribute [local go_sem] max2_int min2_int max_two min_two max_three min_three max_four min_four   -- for this text's walks alone
set_option linter.unusedVariables false
set_option linter.unusedSimpArgs false

end Go.Proofs.Yticchbgbbnpgoaa.QFnStreams
