/- The program's PlainOk returns what the reference's PlainOk returns, for all texts; no conditions. -/
import Derived.Test.YtakidfccgebkfaaPFnExactPlainOkx1
import Derived.Test.YtakidfccgebkfaaM0
set_option linter.unusedVariables false
set_option linter.unusedSimpArgs false
namespace Go.Proofs.Ytakidfccgebkfaa.Pure
open Go.RowKit Go.Proofs.Ytakidfccgebkfaa.PFnExactPlainOk Go.Proofs.YtakidfccgebkfaaW.PrintWords Go.Proofs.YtakidfccgebkfaaW.PrintLast Go.Proofs.Ytakidfccgebkfaa.M0

/-! ### PlainOk -/
def plainB (s : ByteArray) (i : Int) : Bool := !(decide (bt s i < 32) || decide (bt s i > 126) || decide (bt s i = 34) || decide (bt s i = 92))
def plainOk (s : ByteArray) : Bool := allFrom (plainB s) s.size 0 && decide ((s.size : Int) ≤ 12)
theorem plain_round (s : ByteArray) (i : Int) (x : Option Bool) :
    (if (bt s i) < 32 then (some false) else (if (bt s i) > 126 then (some false) else (if (bt s i) = 34 then (some false) else (if (bt s i) = 92 then (some false) else x)))) = if plainB s i = true then x else some false := by
  by_cases h1 : bt s i < 32
  · simp [plainB, h1]
  by_cases h2 : bt s i > 126
  · simp [plainB, h2]
  by_cases h3 : bt s i = 34
  · simp [plainB, h3]
  by_cases h4 : bt s i = 92
  · simp [plainB, h4]
  rw [if_neg h1, if_neg h2, if_neg h3, if_neg h4, if_pos (by simp [plainB, h1, h2, h3, h4])]
theorem spec_PlainOk_eq (s : ByteArray) (hn : s.size ≤ 140737488351232) (k : Nat) (hk : s.size < k) : spec_PlainOk.f k s = some (plainOk s) := by
  unfold spec_PlainOk.f plainOk
  rw [all_loop hn 0 (plainB s) (fun k i => spec_PlainOk.l0 k s i) (some (decide ((s.size : Int) ≤ 12))) ?_ ?_ s.size k 0 (by omega) (by omega) (by omega) (by omega)]
  · by_cases h : allFrom (plainB s) s.size 0 = true
    · simp [h]
    · simp [h]
  · intro k i _ h0 h1
    simp only [spec_PlainOk.l0]
    rw [if_pos h1, if_pos h0, plain_round]
  · intro k _
    simp only [spec_PlainOk.l0]
    rw [if_neg (by omega)]
theorem impl_PlainOk_eq (s : ByteArray) (hn : s.size ≤ 140737488351232) (k : Nat) (hk : s.size < k) : impl_PlainOk.f k s = some (plainOk s) := by
  unfold impl_PlainOk.f plainOk
  by_cases h12 : (s.size : Int) > 12
  · rw [if_pos h12, decide_eq_false (by omega)]; simp
  · rw [if_neg h12, decide_eq_true (by omega)]
    rw [all_loop hn 0 (plainB s) (fun k i => impl_PlainOk.l0 k s i) (some true) ?_ ?_ s.size k 0 (by omega) (by omega) (by omega) (by omega)]
    · by_cases h : allFrom (plainB s) s.size 0 = true
      · simp [h]
      · simp [h]
    · intro k i _ h0 h1
      simp only [impl_PlainOk.l0]
      rw [if_pos h1, if_pos h0, plain_round]
    · intro k _
      simp only [impl_PlainOk.l0]
      rw [if_neg (by omega)]

theorem FnExactPlainOk : laws_FnExactPlainOk.Pure := by
  intro s hn
  refine ⟨s.size + 1, ?_⟩
  unfold laws_FnExactPlainOk.f
  rw [spec_PlainOk_eq s hn _ (by omega), impl_PlainOk_eq s hn _ (by omega)]
  simp

end Go.Proofs.Ytakidfccgebkfaa.Pure
