/- Plain words on loops that seek, that keep, and that walk two lists. No Go, no memory. -/
import Derived.Test.YtgindocfjoalhabM4
set_option linter.unusedVariables false
set_option linter.unusedSimpArgs false
namespace Go.Proofs.Ytgindocfjoalhab.M5
open Go.RowKit Go.Proofs.YtgindocfjoalhabW.PrintWords Go.Proofs.Ytgindocfjoalhab.M0 Go.Proofs.Ytgindocfjoalhab.M1

def seek {α ρ : Type} (hit : α → Option ρ) (fin : ρ) : List α → ρ
  | [] => fin
  | a :: l => match hit a with
    | some r => r
    | none => seek hit fin l
theorem seek_loop {α ρ : Type} (xs : List α) (hn : xs.length ≤ 140737488351232) (d0 : α) (hit : α → Option ρ) (fin : ρ) (K : Nat) (g : Nat → Int → Option ρ)
    (h : ∀ k i, K ≤ k → 0 ≤ i → i < (xs.length : Int) → g (k + 1) i = match hit (xs.getD i.toNat d0) with | some r => some r | none => g k (wrap64 (i + 1)))
    (hf : ∀ k, K ≤ k → g (k + 1) xs.length = some fin) (d : Nat) : ∀ k i, 0 ≤ i → i + d = (xs.length : Int) → K + d < k → g k i = some (seek hit fin (xs.drop i.toNat)) := by
  induction d with
  | zero =>
    intro k i h0 hd hk
    obtain ⟨k, rfl⟩ : ∃ m, k = m + 1 := ⟨k - 1, by omega⟩
    obtain rfl : i = (xs.length : Int) := by omega
    rw [hf k (by omega), List.drop_eq_nil_of_le (by omega)]
    rfl
  | succ d ih =>
    intro k i h0 hd hk
    obtain ⟨k, rfl⟩ : ∃ m, k = m + 1 := ⟨k - 1, by omega⟩
    rw [h k i (by omega) h0 (by omega), drop_cons d0 xs i h0 (by omega)]
    simp only [seek]
    cases hit (xs.getD i.toNat d0) with
    | some r => rfl
    | none => rw [w64 (by omega) (by omega)]; exact ih k (i + 1) (by omega) (by omega) (by omega)

/-- A loop that appends what it keeps. -/
theorem keep_loop {α β : Type} (xs : List α) (hn : xs.length ≤ 1099511627776) (d0 : α) (keep : α → List β) (hkeep : ∀ a, (keep a).length ≤ 1) (K : Nat) (g : Nat → List β → Int → Option (List β))
    (h : ∀ k i out, K ≤ k → 0 ≤ i → i < (xs.length : Int) → out.length ≤ 1099511627776 → g (k + 1) out i = g k (out ++ keep (xs.getD i.toNat d0)) (wrap64 (i + 1)))
    (hf : ∀ k out, K ≤ k → g (k + 1) out xs.length = some out) (d : Nat) : ∀ k i out, 0 ≤ i → i + d = (xs.length : Int) → out.length ≤ i.toNat → K + d < k → g k out i = some (out ++ (xs.drop i.toNat).flatMap keep) := by
  induction d with
  | zero =>
    intro k i out h0 hd ho hk
    obtain ⟨k, rfl⟩ : ∃ m, k = m + 1 := ⟨k - 1, by omega⟩
    obtain rfl : i = (xs.length : Int) := by omega
    rw [hf k out (by omega), List.drop_eq_nil_of_le (by omega)]
    simp
  | succ d ih =>
    intro k i out h0 hd ho hk
    obtain ⟨k, rfl⟩ : ∃ m, k = m + 1 := ⟨k - 1, by omega⟩
    have hl := hkeep (xs.getD i.toNat d0)
    rw [h k i out (by omega) h0 (by omega) (by omega), w64 (by omega) (by omega), ih k (i + 1) _ (by omega) (by omega) (by rw [List.length_append]; omega) (by omega), drop_cons d0 xs i h0 (by omega), List.flatMap_cons, List.append_assoc]
end Go.Proofs.Ytgindocfjoalhab.M5
