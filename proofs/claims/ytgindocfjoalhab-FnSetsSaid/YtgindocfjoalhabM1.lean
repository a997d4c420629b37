/- Plain words on loops over lists: what is left of a budget, lists filled place by place, tests of all places. No Go, no memory. -/
import Derived.Test.YtgindocfjoalhabM0
set_option linter.unusedVariables false
set_option linter.unusedSimpArgs false
namespace Go.Proofs.Ytgindocfjoalhab.M1
open Go.RowKit Go.Proofs.YtgindocfjoalhabW.PrintWords Go.Proofs.Ytgindocfjoalhab.M0

/-- What is left of a budget; -1: it does not reach. -/
def left' (t : Nat) (left : Int) : Int := if (t : Int) ≤ left then left - t else -1
theorem left_neg {t : Nat} {left : Int} (h0 : 0 ≤ left) : left' t left < 0 ↔ left < t := by unfold left'; split <;> omega
theorem left_neg_one {t : Nat} {left : Int} (h0 : 0 ≤ left) (h : left' t left < 0) : left' t left = -1 := by
  rw [left_neg h0] at h
  unfold left'
  rw [if_neg (by omega)]
theorem left_ge {t : Nat} {left : Int} (h0 : 0 ≤ left) (h : ¬ left' t left < 0) : (t : Int) ≤ left := by
  rw [left_neg h0] at h
  omega
theorem left_add (a b : Nat) (left : Int) (h0 : 0 ≤ left) : (if left' a left < 0 then -1 else left' b (left' a left)) = left' (a + b) left := by
  unfold left'
  by_cases h : (a : Int) ≤ left
  · rw [if_pos h, if_neg (by omega)]; split <;> split <;> omega
  · rw [if_neg h, if_pos (by omega), if_neg (by omega)]
theorem left_zero (left : Int) (h0 : 0 ≤ left) : left' 0 left = left := by unfold left'; rw [if_pos (by omega)]; omega
theorem left_of_wrap {n : Nat} {left : Int} (hn : n ≤ 9223372036854775807) (h0 : 0 ≤ left) (h1 : left ≤ 1048576) (x : Int → Option Int) :
    (if (wrap64 (left - n)) < 0 then some (-1) else x (wrap64 (left - n))) = if left' n left < 0 then some (-1) else x (left' n left) := by
  rw [w64 (by omega) (by omega)]
  unfold left'
  by_cases h : (n : Int) ≤ left
  · rw [if_pos h]
  · rw [if_neg h, if_pos (by omega), if_pos (by omega)]
theorem left_le {t : Nat} {left : Int} (h1 : left ≤ 1048576) : left' t left ≤ 1048576 := by unfold left'; split <;> omega

theorem drop_cons {α : Type} (d0 : α) (xs : List α) (i : Int) (h0 : 0 ≤ i) (h1 : i < (xs.length : Int)) : xs.drop i.toNat = xs.getD i.toNat d0 :: xs.drop (i + 1).toNat := by
  have e : (i + 1).toNat = i.toNat + 1 := by omega
  have h : i.toNat < xs.length := by omega
  rw [e, List.drop_eq_getElem_cons h, List.getD_eq_getElem?_getD, List.getElem?_eq_getElem h]; rfl

/-- A loop that takes each element's size off a budget. -/
theorem budget_loop {α : Type} (xs : List α) (hn : xs.length ≤ 140737488351232) (sz : α → Nat) (d0 : α) (K : Nat) (g : Nat → Int → Int → Option Int)
    (h : ∀ k i left, K ≤ k → 0 ≤ i → i < (xs.length : Int) → 0 ≤ left → left ≤ 1048576 → g (k + 1) left i = if left' (sz (xs.getD i.toNat d0)) left < 0 then some (-1) else g k (left' (sz (xs.getD i.toNat d0)) left) (wrap64 (i + 1)))
    (hf : ∀ k left, K ≤ k → g (k + 1) left xs.length = some left) (d : Nat) :
    ∀ k i left, 0 ≤ i → i + d = (xs.length : Int) → 0 ≤ left → left ≤ 1048576 → K + d < k → g k left i = some (left' ((xs.drop i.toNat).map sz).sum left) := by
  induction d with
  | zero =>
    intro k i left h0 hd hl hl' hk
    obtain ⟨k, rfl⟩ : ∃ m, k = m + 1 := ⟨k - 1, by omega⟩
    obtain rfl : i = (xs.length : Int) := by omega
    rw [hf k left (by omega), List.drop_eq_nil_of_le (by omega)]
    simp [left_zero left hl]
  | succ d ih =>
    intro k i left h0 hd hl hl' hk
    obtain ⟨k, rfl⟩ : ∃ m, k = m + 1 := ⟨k - 1, by omega⟩
    rw [h k i left (by omega) h0 (by omega) hl hl', drop_cons d0 xs i h0 (by omega), List.map_cons, List.sum_cons, ← left_add _ _ _ hl]
    by_cases hz : left' (sz (xs.getD i.toNat d0)) left < 0
    · rw [if_pos hz, if_pos hz]
    · rw [if_neg hz, if_neg hz, w64 (by omega) (by omega)]
      exact ih k (i + 1) _ (by omega) (by omega) (by omega) (left_le hl') (by omega)

/-- A loop that fills a list, place by place. -/
theorem fill_loop {α β : Type} (xs : List α) (hn : xs.length ≤ 140737488351232) (f : α → β) (d0 : α) (K : Nat) (g : Nat → List β → Int → Option (List β))
    (h : ∀ k i out, K ≤ k → 0 ≤ i → i < (xs.length : Int) → out.length = xs.length → g (k + 1) out i = g k (out.set i.toNat (f (xs.getD i.toNat d0))) (wrap64 (i + 1)))
    (hf : ∀ k out, K ≤ k → g (k + 1) out xs.length = some out) (k : Nat) (z : β) (hk : K + xs.length < k) :
    g k (List.replicate xs.length z) 0 = some (xs.map f) := by
  have key : ∀ (d k : Nat) (i : Int) (out : List β), 0 ≤ i → i + d = (xs.length : Int) → out.length = xs.length → (∀ j : Nat, (j : Int) < i → out[j]? = (xs.map f)[j]?) → K + d < k → g k out i = some (xs.map f) := by
    intro d
    induction d with
    | zero =>
      intro k i out h0 hd hl ho hk
      obtain ⟨k, rfl⟩ : ∃ m, k = m + 1 := ⟨k - 1, by omega⟩
      obtain rfl : i = (xs.length : Int) := by omega
      rw [hf k out (by omega)]
      congr 1
      apply List.ext_getElem?
      intro j
      by_cases hj : j < xs.length
      · exact ho j (by omega)
      · rw [List.getElem?_eq_none (by omega), List.getElem?_eq_none (by rw [List.length_map]; omega)]
    | succ d ih =>
      intro k i out h0 hd hl ho hk
      obtain ⟨k, rfl⟩ : ∃ m, k = m + 1 := ⟨k - 1, by omega⟩
      rw [h k i out (by omega) h0 (by omega) hl, w64 (by omega) (by omega)]
      refine ih k (i + 1) _ (by omega) (by omega) (by rw [List.length_set]; exact hl) (fun j hj => ?_) (by omega)
      by_cases e : j = i.toNat
      · subst e
        have hj' : i.toNat < xs.length := by omega
        rw [List.getElem?_set_self (by omega), List.getElem?_map, List.getElem?_eq_getElem hj', List.getD_eq_getElem?_getD, List.getElem?_eq_getElem hj']
        rfl
      · rw [List.getElem?_set_ne (by omega)]
        exact ho j (by omega)
  exact key xs.length k 0 _ (by omega) (by omega) (by simp) (fun j hj => by omega) hk

/-- 'all_loop' from a place s on. -/
theorem all_loop_from {n : Nat} (hn : n ≤ 140737488351232) (s : Int) (hs : 0 ≤ s) (K : Nat) (p : Int → Bool) (g : Nat → Int → Option Bool) (fin : Option Bool)
    (h : ∀ k i, K ≤ k → s ≤ i → i < (n : Int) → g (k + 1) i = if p i = true then g k (wrap64 (i + 1)) else some false)
    (hf : ∀ k, K ≤ k → g (k + 1) n = fin) (d : Nat) :
    ∀ k i, s ≤ i → i ≤ (n : Int) → (n : Int) - i = d → K + d < k → g k i = if allFrom p d i = true then fin else some false := by
  induction d with
  | zero =>
    intro k i h0 h1 hd hk
    obtain ⟨k, rfl⟩ : ∃ m, k = m + 1 := ⟨k - 1, by omega⟩
    obtain rfl : i = (n : Int) := by omega
    rw [hf k (by omega)]; simp [allFrom]
  | succ d ih =>
    intro k i h0 h1 hd hk
    obtain ⟨k, rfl⟩ : ∃ m, k = m + 1 := ⟨k - 1, by omega⟩
    rw [h k i (by omega) h0 (by omega)]
    by_cases hp : p i = true
    · rw [if_pos hp, w64 (by omega) (by omega), ih k (i + 1) (by omega) (by omega) (by omega) (by omega)]
      simp [allFrom, hp]
    · rw [if_neg hp]; simp [allFrom, hp]
theorem bool_of_if (b : Bool) : (if b = true then some true else some false) = some b := by cases b <;> rfl
theorem allFrom_true {p : Int → Bool} (h : ∀ i, p i = true) : ∀ d i, allFrom p d i = true
  | 0, _ => rfl
  | d + 1, i => by simp [allFrom, h, allFrom_true h d]
theorem allFrom_congr {p q : Int → Bool} : ∀ (d : Nat) (i : Int), (∀ j, i ≤ j → j < i + d → p j = q j) → allFrom p d i = allFrom q d i
  | 0, _, _ => rfl
  | d + 1, i, h => by
    simp only [allFrom]
    rw [h i (by omega) (by omega), allFrom_congr d (i + 1) (fun j h1 h2 => h j (by omega) (by omega))]
theorem allFrom_iff {p : Int → Bool} : ∀ (d : Nat) (i : Int), allFrom p d i = true ↔ ∀ j, i ≤ j → j < i + d → p j = true
  | 0, i => by simp [allFrom]; intro j h1 h2; omega
  | d + 1, i => by
    simp only [allFrom, Bool.and_eq_true, allFrom_iff d (i + 1)]
    constructor
    · rintro ⟨h0, h1⟩ j hj hj'
      by_cases e : j = i
      · rw [e]; exact h0
      · exact h1 j (by omega) (by omega)
    · intro h
      exact ⟨h i (by omega) (by omega), fun j hj hj' => h j (by omega) (by omega)⟩
end Go.Proofs.Ytgindocfjoalhab.M1
