/- Plain words on loops, wraps and lists for the pure statements of this seat: no Go, no memory. -/
import Derived.Test.YtdhignbneeapiaaWMore
set_option linter.unusedVariables false
set_option linter.unusedSimpArgs false
namespace Go.Proofs.Ytdhignbneeapiaa.M0
open Go.RowKit Go.Proofs.YtdhignbneeapiaaW.PrintWords

theorem w64 {x : Int} (h : -9223372036854775808 ≤ x) (h' : x ≤ 9223372036854775807) : wrap64 x = x := by
  unfold wrap64
  omega

/-- All of d places from i on. -/
def allFrom (p : Int → Bool) : Nat → Int → Bool
  | 0, _ => true
  | d + 1, i => p i && allFrom p d (i + 1)

theorem all_loop {n : Nat} (hn : n ≤ 140737488351232) (K : Nat) (p : Int → Bool) (g : Nat → Int → Option Bool) (fin : Option Bool)
    (h : ∀ k i, K ≤ k → 0 ≤ i → i < (n : Int) → g (k + 1) i = if p i = true then g k (wrap64 (i + 1)) else some false)
    (hf : ∀ k, K ≤ k → g (k + 1) n = fin) (d : Nat) :
    ∀ k i, 0 ≤ i → i ≤ (n : Int) → (n : Int) - i = d → K + d < k → g k i = if allFrom p d i = true then fin else some false := by
  induction d with
  | zero =>
    intro k i h0 h1 hd hk
    obtain ⟨k, rfl⟩ : ∃ m, k = m + 1 := ⟨k - 1, by omega⟩
    obtain rfl : i = (n : Int) := by omega
    rw [hf k (by omega)]; simp [allFrom]
  | succ d ih =>
    intro k i h0 h1 hd hk
    obtain ⟨k, rfl⟩ : ∃ m, k = m + 1 := ⟨k - 1, by omega⟩
    rw [h k i (by omega) h0 (by omega)]
    by_cases hp : p i = true
    · rw [if_pos hp, w64 (by omega) (by omega), ih k (i + 1) (by omega) (by omega) (by omega) (by omega)]
      simp [allFrom, hp]
    · rw [if_neg hp]; simp [allFrom, hp]

end Go.Proofs.Ytdhignbneeapiaa.M0
