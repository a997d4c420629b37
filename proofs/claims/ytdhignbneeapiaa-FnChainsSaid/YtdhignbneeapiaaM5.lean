/- Plain words on loops that seek, that keep, and that walk two lists. No Go, no memory. -/
import Derived.Test.YtdhignbneeapiaaM4
set_option linter.unusedVariables false
set_option linter.unusedSimpArgs false
namespace Go.Proofs.Ytdhignbneeapiaa.M5
open Go.RowKit Go.Proofs.YtdhignbneeapiaaW.PrintWords Go.Proofs.Ytdhignbneeapiaa.M0 Go.Proofs.Ytdhignbneeapiaa.M1

def seek {α ρ : Type} (hit : α → Option ρ) (fin : ρ) : List α → ρ
  | [] => fin
  | a :: l => match hit a with
    | some r => r
    | none => seek hit fin l
/-- A loop that appends what it keeps. -/
theorem keep_loop {α β : Type} (xs : List α) (hn : xs.length ≤ 1099511627776) (d0 : α) (keep : α → List β) (hkeep : ∀ a, (keep a).length ≤ 1) (K : Nat) (g : Nat → List β → Int → Option (List β))
    (h : ∀ k i out, K ≤ k → 0 ≤ i → i < (xs.length : Int) → out.length ≤ 1099511627776 → g (k + 1) out i = g k (out ++ keep (xs.getD i.toNat d0)) (wrap64 (i + 1)))
    (hf : ∀ k out, K ≤ k → g (k + 1) out xs.length = some out) (d : Nat) : ∀ k i out, 0 ≤ i → i + d = (xs.length : Int) → out.length ≤ i.toNat → K + d < k → g k out i = some (out ++ (xs.drop i.toNat).flatMap keep) := by
  induction d with
  | zero =>
    intro k i out h0 hd ho hk
    obtain ⟨k, rfl⟩ : ∃ m, k = m + 1 := ⟨k - 1, by omega⟩
    obtain rfl : i = (xs.length : Int) := by omega
    rw [hf k out (by omega), List.drop_eq_nil_of_le (by omega)]
    simp
  | succ d ih =>
    intro k i out h0 hd ho hk
    obtain ⟨k, rfl⟩ : ∃ m, k = m + 1 := ⟨k - 1, by omega⟩
    have hl := hkeep (xs.getD i.toNat d0)
    rw [h k i out (by omega) h0 (by omega) (by omega), w64 (by omega) (by omega), ih k (i + 1) _ (by omega) (by omega) (by rw [List.length_append]; omega) (by omega), drop_cons d0 xs i h0 (by omega), List.flatMap_cons, List.append_assoc]
end Go.Proofs.Ytdhignbneeapiaa.M5
