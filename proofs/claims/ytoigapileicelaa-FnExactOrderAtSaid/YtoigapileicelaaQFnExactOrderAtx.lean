import Derived.Test.YtoigapileicelaaQFnExactOrderAtx0
import Derived.Test.YtoigapileicelaaQFnExactOrderAtx1
import Derived.Test.YtoigapileicelaaQFnExactOrderAtx2
import Derived.Test.YtoigapileicelaaQFnExactOrderAtx3
namespace Go.Proofs.Ytoigapileicelaa.QFnExactOrderAt
open Go.RowKit Go.Proofs.YtoigapileicelaaW.PrintWords Go.Proofs.YtoigapileicelaaW.PrintLast Go.Proofs.YtoigapileicelaaW.PrintMore
attribute [local go_sem] max2_int min2_int max_two min_two max_three min_three max_four min_four   -- for this text's walks alone
set_option linter.unusedVariables false
set_option linter.unusedSimpArgs false

end Go.Proofs.Ytoigapileicelaa.QFnExactOrderAt
