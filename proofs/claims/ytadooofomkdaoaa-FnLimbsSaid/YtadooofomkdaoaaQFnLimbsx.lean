import Derived.Test.YtadooofomkdaoaaQFnLimbsx0
import Derived.Test.YtadooofomkdaoaaQFnLimbsx1
import Derived.Test.YtadooofomkdaoaaQFnLimbsx2
import Derived.Test.YtadooofomkdaoaaQFnLimbsx3
import Derived.Test.YtadooofomkdaoaaQFnLimbsx4
import Derived.Test.YtadooofomkdaoaaQFnLimbsx5
import Derived.Test.YtadooofomkdaoaaQFnLimbsx6
import Derived.Test.YtadooofomkdaoaaQFnLimbsx7
import Derived.Test.YtadooofomkdaoaaQFnLimbsx8
import Derived.Test.YtadooofomkdaoaaQFnLimbsx9
import Derived.Test.YtadooofomkdaoaaQFnLimbsx10
import Derived.Test.YtadooofomkdaoaaQFnLimbsx11
import Derived.Test.YtadooofomkdaoaaQFnLimbsx12
import Derived.Test.YtadooofomkdaoaaQFnLimbsx13
import Derived.Test.YtadooofomkdaoaaQFnLimbsx14
import Derived.Test.YtadooofomkdaoaaQFnLimbsx15
namespace Go.Proofs.Ytadooofomkdaoaa.QFnLimbs
open Go.RowKit Go.Proofs.YtadooofomkdaoaaW.PrintWords Go.Proofs.YtadooofomkdaoaaW.PrintLast Go.Proofs.YtadooofomkdaoaaW.PrintMore
attribute [local go_sem] max2_int min2_int max_two min_two max_three min_three max_four min_four   -- for this text's walks alone
set_option linter.unusedVariables false
set_option linter.unusedSimpArgs false

end Go.Proofs.Ytadooofomkdaoaa.QFnLimbs
