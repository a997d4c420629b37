/- The program's Least returns what the reference's Least returns, for all two numbers; no conditions. -/
import Derived.Test.YtakidfccgebkfaaPFnExactLeastx1
import Derived.Test.YtakidfccgebkfaaM0
set_option linter.unusedVariables false
set_option linter.unusedSimpArgs false
namespace Go.Proofs.Ytakidfccgebkfaa.Pure
open Go.RowKit Go.Proofs.Ytakidfccgebkfaa.PFnExactLeast Go.Proofs.YtakidfccgebkfaaW.PrintWords Go.Proofs.YtakidfccgebkfaaW.PrintLast Go.Proofs.Ytakidfccgebkfaa.M0


theorem FnExactLeast : laws_FnExactLeast.Pure := by
  intro a b _ _
  have h : spec_Least.f a b = some (mn a b) := by
    unfold spec_Least.f
    split <;> (congr 1; unfold mn; omega)
  unfold laws_FnExactLeast.f impl_Least.f
  rw [h]
  simp

end Go.Proofs.Ytakidfccgebkfaa.Pure
