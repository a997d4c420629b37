/- The program's Most returns what the reference's Most returns, for all two numbers; no conditions. -/
import Derived.Test.YtakidfccgebkfaaPFnExactMostx1
import Derived.Test.YtakidfccgebkfaaM0
set_option linter.unusedVariables false
set_option linter.unusedSimpArgs false
namespace Go.Proofs.Ytakidfccgebkfaa.Pure
open Go.RowKit Go.Proofs.Ytakidfccgebkfaa.PFnExactMost Go.Proofs.YtakidfccgebkfaaW.PrintWords Go.Proofs.YtakidfccgebkfaaW.PrintLast Go.Proofs.Ytakidfccgebkfaa.M0


theorem FnExactMost : laws_FnExactMost.Pure := by
  intro a b _ _
  have h : spec_Most.f a b = some (mx a b) := by
    unfold spec_Most.f
    split <;> (congr 1; unfold mx; omega)
  unfold laws_FnExactMost.f impl_Most.f
  rw [h]
  simp

end Go.Proofs.Ytakidfccgebkfaa.Pure
