/- The program's NameOk returns what the reference's NameOk returns, for all texts; no conditions. -/
import Derived.Test.YtakidfccgebkfaaPFnExactNameOkx1
import Derived.Test.YtakidfccgebkfaaM0
set_option linter.unusedVariables false
set_option linter.unusedSimpArgs false
namespace Go.Proofs.Ytakidfccgebkfaa.Pure
open Go.RowKit Go.Proofs.Ytakidfccgebkfaa.PFnExactNameOk Go.Proofs.YtakidfccgebkfaaW.PrintWords Go.Proofs.YtakidfccgebkfaaW.PrintLast Go.Proofs.Ytakidfccgebkfaa.M0

/-! ### NameOk -/
def nameB (s : ByteArray) (i : Int) : Bool := !(decide (bt s i < 97) || decide (bt s i > 122))
def inB (x a b : Int) : Bool := decide (a ≤ x) && decide (x ≤ b)
def nameOk (s : ByteArray) : Bool := allFrom (nameB s) s.size 0 && inB s.size 1 8
theorem spec_l1In_eq (x a b : Int) : spec_l1In.f x a b = some (inB x a b) := by
  unfold spec_l1In.f inB
  by_cases h : x ≥ a
  · rw [if_pos h, decide_eq_true (show a ≤ x from h)]; simp
  · rw [if_neg h, decide_eq_false (show ¬ a ≤ x from h)]; simp
theorem impl_in_eq (x a b : Int) : impl_in.f x a b = some (inB x a b) := by
  unfold impl_in.f inB
  by_cases h : x ≥ a
  · rw [if_pos h, decide_eq_true (show a ≤ x from h)]; simp
  · rw [if_neg h, decide_eq_false (show ¬ a ≤ x from h)]; simp
theorem name_round (s : ByteArray) (i : Int) (x : Option Bool) :
    (if (bt s i) < 97 then (some false) else (if (bt s i) > 122 then (some false) else x)) = if nameB s i = true then x else some false := by
  by_cases h1 : bt s i < 97
  · simp [nameB, h1]
  by_cases h2 : bt s i > 122
  · simp [nameB, h2]
  rw [if_neg h1, if_neg h2, if_pos (by simp [nameB, h1, h2])]
theorem spec_NameOk_eq (s : ByteArray) (hn : s.size ≤ 140737488351232) (k : Nat) (hk : s.size < k) : spec_NameOk.f k s = some (nameOk s) := by
  unfold spec_NameOk.f nameOk
  rw [all_loop hn 0 (nameB s) (fun k i => spec_NameOk.l0 k s i) (some (inB s.size 1 8)) ?_ ?_ s.size k 0 (by omega) (by omega) (by omega) (by omega)]
  · by_cases h : allFrom (nameB s) s.size 0 = true
    · simp [h]
    · simp [h]
  · intro k i _ h0 h1
    simp only [spec_NameOk.l0]
    rw [if_pos h1, if_pos h0, name_round]
  · intro k _
    simp only [spec_NameOk.l0]
    rw [if_neg (by omega), spec_l1In_eq]; rfl
theorem impl_NameOk_eq (s : ByteArray) (hn : s.size ≤ 140737488351232) (k : Nat) (hk : s.size < k) : impl_NameOk.f k s = some (nameOk s) := by
  unfold impl_NameOk.f nameOk
  rw [impl_in_eq]
  simp only [Option.bind_some]
  by_cases h12 : inB s.size 1 8 = true
  · rw [if_pos h12, h12]
    rw [all_loop hn 0 (nameB s) (fun k i => impl_NameOk.l0 k s i) (some true) ?_ ?_ s.size k 0 (by omega) (by omega) (by omega) (by omega)]
    · by_cases h : allFrom (nameB s) s.size 0 = true
      · simp [h]
      · simp [h]
    · intro k i _ h0 h1
      simp only [impl_NameOk.l0]
      rw [if_pos h1, if_pos h0, name_round]
    · intro k _
      simp only [impl_NameOk.l0]
      rw [if_neg (by omega)]
  · rw [if_neg h12]; simp [h12]

theorem FnExactNameOk : laws_FnExactNameOk.Pure := by
  intro s hn
  refine ⟨s.size + 1, ?_⟩
  unfold laws_FnExactNameOk.f
  rw [spec_NameOk_eq s hn _ (by omega), impl_NameOk_eq s hn _ (by omega)]
  simp

end Go.Proofs.Ytakidfccgebkfaa.Pure
