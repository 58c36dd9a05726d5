import Derived.Test.YtadooofomkdaoaaQFnExactSecretFitsx0
import Derived.Test.YtadooofomkdaoaaQFnExactSecretFitsx1
import Derived.Test.YtadooofomkdaoaaQFnExactSecretFitsx2
import Derived.Test.YtadooofomkdaoaaQFnExactSecretFitsx3
import Derived.Test.YtadooofomkdaoaaQFnExactSecretFitsx4
import Derived.Test.YtadooofomkdaoaaQFnExactSecretFitsx5
namespace Go.Proofs.Ytadooofomkdaoaa.QFnExactSecretFits
open Go.RowKit Go.Proofs.YtadooofomkdaoaaW.PrintWords Go.Proofs.YtadooofomkdaoaaW.PrintLast Go.Proofs.YtadooofomkdaoaaW.PrintMore
attribute [local go_sem] max2_int min2_int max_two min_two max_three min_three max_four min_four   -- for this text's walks alone
set_option linter.unusedVariables false
set_option linter.unusedSimpArgs false

end Go.Proofs.Ytadooofomkdaoaa.QFnExactSecretFits
