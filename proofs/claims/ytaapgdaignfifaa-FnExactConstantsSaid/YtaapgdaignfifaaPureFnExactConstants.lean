/- The program's constants are the reference's: for all inputs, with no condition (the plain half). -/
import Derived.Test.YtaapgdaignfifaaPFnExactConstantsx
set_option linter.unusedVariables false
set_option linter.unusedSimpArgs false
namespace Go.Proofs.Ytaapgdaignfifaa.Pure
open Go.RowKit Go.Proofs.Ytaapgdaignfifaa.PFnExactConstants Go.Proofs.YtaapgdaignfifaaW.PrintWords Go.Proofs.YtaapgdaignfifaaW.PrintLast


theorem FnExactConstants : laws_FnExactConstants.Pure := rfl

end Go.Proofs.Ytaapgdaignfifaa.Pure
