/- Plain words on loops over lists: what is left of a budget, lists filled place by place, tests of all places. No Go, no memory. -/
import Derived.Test.YtdhignbneeapiaaM0
set_option linter.unusedVariables false
set_option linter.unusedSimpArgs false
namespace Go.Proofs.Ytdhignbneeapiaa.M1
open Go.RowKit Go.Proofs.YtdhignbneeapiaaW.PrintWords Go.Proofs.Ytdhignbneeapiaa.M0

theorem drop_cons {α : Type} (d0 : α) (xs : List α) (i : Int) (h0 : 0 ≤ i) (h1 : i < (xs.length : Int)) : xs.drop i.toNat = xs.getD i.toNat d0 :: xs.drop (i + 1).toNat := by
  have e : (i + 1).toNat = i.toNat + 1 := by omega
  have h : i.toNat < xs.length := by omega
  rw [e, List.drop_eq_getElem_cons h, List.getD_eq_getElem?_getD, List.getElem?_eq_getElem h]; rfl

theorem bool_of_if (b : Bool) : (if b = true then some true else some false) = some b := by cases b <;> rfl
theorem allFrom_true {p : Int → Bool} (h : ∀ i, p i = true) : ∀ d i, allFrom p d i = true
  | 0, _ => rfl
  | d + 1, i => by simp [allFrom, h, allFrom_true h d]
theorem allFrom_congr {p q : Int → Bool} : ∀ (d : Nat) (i : Int), (∀ j, i ≤ j → j < i + d → p j = q j) → allFrom p d i = allFrom q d i
  | 0, _, _ => rfl
  | d + 1, i, h => by
    simp only [allFrom]
    rw [h i (by omega) (by omega), allFrom_congr d (i + 1) (fun j h1 h2 => h j (by omega) (by omega))]
theorem allFrom_iff {p : Int → Bool} : ∀ (d : Nat) (i : Int), allFrom p d i = true ↔ ∀ j, i ≤ j → j < i + d → p j = true
  | 0, i => by simp [allFrom]; intro j h1 h2; omega
  | d + 1, i => by
    simp only [allFrom, Bool.and_eq_true, allFrom_iff d (i + 1)]
    constructor
    · rintro ⟨h0, h1⟩ j hj hj'
      by_cases e : j = i
      · rw [e]; exact h0
      · exact h1 j (by omega) (by omega)
    · intro h
      exact ⟨h i (by omega) (by omega), fun j hj hj' => h j (by omega) (by omega)⟩
end Go.Proofs.Ytdhignbneeapiaa.M1
