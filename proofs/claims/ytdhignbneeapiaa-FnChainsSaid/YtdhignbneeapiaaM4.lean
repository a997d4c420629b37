/- Plain words on marks: a list marked place by place, and held. No Go, no memory. -/
import Derived.Test.YtdhignbneeapiaaM3
set_option linter.unusedVariables false
set_option linter.unusedSimpArgs false
namespace Go.Proofs.Ytdhignbneeapiaa.M4
open Go.RowKit Go.Proofs.YtdhignbneeapiaaW.PrintWords Go.Proofs.Ytdhignbneeapiaa.M0 Go.Proofs.Ytdhignbneeapiaa.M1

end Go.Proofs.Ytdhignbneeapiaa.M4
