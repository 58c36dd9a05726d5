import Derived.Test.YtoigapileicelaaQFnMixedx0
import Derived.Test.YtoigapileicelaaQFnMixedx1
import Derived.Test.YtoigapileicelaaQFnMixedx2
import Derived.Test.YtoigapileicelaaQFnMixedx3
import Derived.Test.YtoigapileicelaaQFnMixedx4
import Derived.Test.YtoigapileicelaaQFnMixedx5
import Derived.Test.YtoigapileicelaaQFnMixedx6
import Derived.Test.YtoigapileicelaaQFnMixedx7
namespace Go.Proofs.Ytoigapileicelaa.QFnMixed
open Go.RowKit Go.Proofs.YtoigapileicelaaW.PrintWords Go.Proofs.YtoigapileicelaaW.PrintLast Go.Proofs.YtoigapileicelaaW.PrintMore
attribute [local go_sem] max2_int min2_int max_two min_two max_three min_three max_four min_four   -- for this text's walks alone
set_option linter.unusedVariables false
set_option linter.unusedSimpArgs false

end Go.Proofs.Ytoigapileicelaa.QFnMixed
