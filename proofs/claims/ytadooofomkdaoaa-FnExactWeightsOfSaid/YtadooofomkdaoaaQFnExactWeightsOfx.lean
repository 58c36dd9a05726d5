import Derived.Test.YtadooofomkdaoaaQFnExactWeightsOfx0
import Derived.Test.YtadooofomkdaoaaQFnExactWeightsOfx1
import Derived.Test.YtadooofomkdaoaaQFnExactWeightsOfx2
import Derived.Test.YtadooofomkdaoaaQFnExactWeightsOfx3
import Derived.Test.YtadooofomkdaoaaQFnExactWeightsOfx4
namespace Go.Proofs.Ytadooofomkdaoaa.QFnExactWeightsOf
open Go.RowKit Go.Proofs.YtadooofomkdaoaaW.PrintWords Go.Proofs.YtadooofomkdaoaaW.PrintLast Go.Proofs.YtadooofomkdaoaaW.PrintMore
attribute [local go_sem] max2_int min2_int max_two min_two max_three min_three max_four min_four   -- for this text's walks alone
set_option linter.unusedVariables false
set_option linter.unusedSimpArgs false

end Go.Proofs.Ytadooofomkdaoaa.QFnExactWeightsOf
