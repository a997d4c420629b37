/- The program's constants are as told, for every input; no conditions. -/
import Derived.Test.YtakidfccgebkfaaPFnExactConstantsx1
import Derived.Test.YtakidfccgebkfaaM0
set_option linter.unusedVariables false
set_option linter.unusedSimpArgs false
namespace Go.Proofs.Ytakidfccgebkfaa.Pure
open Go.RowKit Go.Proofs.Ytakidfccgebkfaa.PFnExactConstants Go.Proofs.YtakidfccgebkfaaW.PrintWords Go.Proofs.YtakidfccgebkfaaW.PrintLast Go.Proofs.Ytakidfccgebkfaa.M0


theorem FnExactConstants : laws_FnExactConstants.Pure := rfl

end Go.Proofs.Ytakidfccgebkfaa.Pure
