/- The program's Less returns what the reference's Less returns, for all two texts; no conditions. -/
import Derived.Test.YtakidfccgebkfaaPFnExactLessx1
import Derived.Test.YtakidfccgebkfaaM0
set_option linter.unusedVariables false
set_option linter.unusedSimpArgs false
namespace Go.Proofs.Ytakidfccgebkfaa.Pure
open Go.RowKit Go.Proofs.Ytakidfccgebkfaa.PFnExactLess Go.Proofs.YtakidfccgebkfaaW.PrintWords Go.Proofs.YtakidfccgebkfaaW.PrintLast Go.Proofs.Ytakidfccgebkfaa.M0


theorem FnExactLess : laws_FnExactLess.Pure := by
  intro a b _ _
  unfold laws_FnExactLess.f spec_Less.f impl_Less.f
  simp only [Option.bind_some, bne_self_eq_false, Bool.false_eq_true, if_false]
  split
  · rfl
  · split <;> rfl

end Go.Proofs.Ytakidfccgebkfaa.Pure
