import Derived.Test.YtadooofomkdaoaaQFnHalvesx0
import Derived.Test.YtadooofomkdaoaaQFnHalvesx1
import Derived.Test.YtadooofomkdaoaaQFnHalvesx2
import Derived.Test.YtadooofomkdaoaaQFnHalvesx3
import Derived.Test.YtadooofomkdaoaaQFnHalvesx4
import Derived.Test.YtadooofomkdaoaaQFnHalvesx5
import Derived.Test.YtadooofomkdaoaaQFnHalvesx6
import Derived.Test.YtadooofomkdaoaaQFnHalvesx7
import Derived.Test.YtadooofomkdaoaaQFnHalvesx8
import Derived.Test.YtadooofomkdaoaaQFnHalvesx9
import Derived.Test.YtadooofomkdaoaaQFnHalvesx10
import Derived.Test.YtadooofomkdaoaaQFnHalvesx11
import Derived.Test.YtadooofomkdaoaaQFnHalvesx12
import Derived.Test.YtadooofomkdaoaaQFnHalvesx13
import Derived.Test.YtadooofomkdaoaaQFnHalvesx14
namespace Go.Proofs.Ytadooofomkdaoaa.QFnHalves
open Go.RowKit Go.Proofs.YtadooofomkdaoaaW.PrintWords Go.Proofs.YtadooofomkdaoaaW.PrintLast Go.Proofs.YtadooofomkdaoaaW.PrintMore
attribute [local go_sem] max2_int min2_int max_two min_two max_three min_three max_four min_four   -- for this text's walks alone
set_option linter.unusedVariables false
set_option linter.unusedSimpArgs false

end Go.Proofs.Ytadooofomkdaoaa.QFnHalves
