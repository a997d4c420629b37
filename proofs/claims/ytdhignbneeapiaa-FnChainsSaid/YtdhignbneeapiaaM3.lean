/- Plain words on the order of byte lists. No Go, no memory. -/
import Derived.Test.YtdhignbneeapiaaM2
set_option linter.unusedVariables false
set_option linter.unusedSimpArgs false
namespace Go.Proofs.Ytdhignbneeapiaa.M3
open Go.RowKit

end Go.Proofs.Ytdhignbneeapiaa.M3
