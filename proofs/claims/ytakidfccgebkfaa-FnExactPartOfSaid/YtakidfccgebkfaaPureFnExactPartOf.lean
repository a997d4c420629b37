/- The program's PartOf returns what the reference's PartOf returns, for all two numbers; no conditions. -/
import Derived.Test.YtakidfccgebkfaaPFnExactPartOfx1
import Derived.Test.YtakidfccgebkfaaM0
set_option linter.unusedVariables false
set_option linter.unusedSimpArgs false
namespace Go.Proofs.Ytakidfccgebkfaa.Pure
open Go.RowKit Go.Proofs.Ytakidfccgebkfaa.PFnExactPartOf Go.Proofs.YtakidfccgebkfaaW.PrintWords Go.Proofs.YtakidfccgebkfaaW.PrintLast Go.Proofs.Ytakidfccgebkfaa.M0

/-! ### PartOf -/
def partOf (a n : Int) : Int := if n < 1 then 0 else if a < 0 then 0 else Int.tmod a n
theorem spec_PartOf_eq (a n : Int) : spec_PartOf.f a n = some (partOf a n) := by
  unfold spec_PartOf.f partOf
  by_cases h : n < 1
  · rw [if_pos h, if_pos h]
  · rw [if_neg h, if_neg h, if_neg (show ¬ n = 0 by omega)]
    split <;> rfl
theorem impl_PartOf_eq (a n : Int) : impl_PartOf.f a n = some (partOf a n) := by
  unfold impl_PartOf.f partOf
  by_cases h : n < 1
  · rw [if_pos h, if_pos h]
  · rw [if_neg h, if_neg h, if_neg (show ¬ n = 0 by omega)]
    split <;> rfl

theorem FnExactPartOf : laws_FnExactPartOf.Pure := by
  intro a b _ _
  unfold laws_FnExactPartOf.f
  rw [spec_PartOf_eq, impl_PartOf_eq]
  simp

end Go.Proofs.Ytakidfccgebkfaa.Pure
