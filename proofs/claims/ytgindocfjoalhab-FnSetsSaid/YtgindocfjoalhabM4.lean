/- Plain words on marks: a list marked place by place, and held. No Go, no memory. -/
import Derived.Test.YtgindocfjoalhabM3
set_option linter.unusedVariables false
set_option linter.unusedSimpArgs false
namespace Go.Proofs.Ytgindocfjoalhab.M4
open Go.RowKit Go.Proofs.YtgindocfjoalhabW.PrintWords Go.Proofs.Ytgindocfjoalhab.M0 Go.Proofs.Ytgindocfjoalhab.M1

/-- Each element marked from x on, a number sz of marks each. -/
def markAll {β : Type} (mk : β → Int → β) (sz : β → Nat) : List β → Int → List β
  | [], _ => []
  | b :: l, x => mk b x :: markAll mk sz l (x + sz b)
def total {β : Type} (sz : β → Nat) (l : List β) : Nat := (l.map sz).sum
theorem total_cons {β : Type} (sz : β → Nat) (b : β) (l : List β) : total sz (b :: l) = sz b + total sz l := by simp [total]
theorem total_const {β : Type} (c : Nat) : ∀ l : List β, total (fun _ => c) l = c * l.length
  | [] => by simp [total]
  | b :: l => by rw [total_cons, total_const c l, List.length_cons, Nat.mul_succ]; omega
theorem markAll_length {β : Type} (mk : β → Int → β) (sz : β → Nat) : ∀ (l : List β) (x : Int), (markAll mk sz l x).length = l.length
  | [], _ => rfl
  | b :: l, x => by simp [markAll, markAll_length mk sz l]
theorem getD_pre {β : Type} (d0 : β) (pre rest : List β) (b : β) : (pre ++ b :: rest).getD pre.length d0 = b := by simp [List.getD_eq_getElem?_getD]
theorem set_pre {β : Type} (pre rest : List β) (b c : β) : (pre ++ b :: rest).set pre.length c = pre ++ c :: rest := by simp

/-- A loop that marks a list in its place. -/
theorem mark_loop {β : Type} (mk : β → Int → β) (sz : β → Nat) (K : Nat) (B : Int) (ok : β → Prop) (g : Nat → List β → Int → Int → Option (Int × List β))
    (h : ∀ k pre b rest x, K ≤ k → 0 ≤ x → x + sz b ≤ B → (pre ++ b :: rest).length ≤ 140737488351232 → ok b → g (k + 1) (pre ++ b :: rest) x pre.length = g k (pre ++ mk b x :: rest) (x + sz b) ((pre.length + 1 : Nat) : Int))
    (hf : ∀ k l x, K ≤ k → g (k + 1) l x l.length = some (x, l)) : ∀ (rest pre : List β) (k : Nat) (x : Int), 0 ≤ x → x + total sz rest ≤ B → (pre ++ rest).length ≤ 140737488351232 → (∀ b ∈ rest, ok b) → K + rest.length < k →
      g k (pre ++ rest) x pre.length = some (x + total sz rest, pre ++ markAll mk sz rest x)
  | [], pre, k, x, h0, hB, hn, hok, hk => by
    obtain ⟨k, rfl⟩ : ∃ m, k = m + 1 := ⟨k - 1, by omega⟩
    have := hf k pre x (by omega)
    simp only [List.append_nil]
    rw [this]
    simp [total, markAll]
  | b :: rest, pre, k, x, h0, hB, hn, hok, hk => by
    obtain ⟨k, rfl⟩ : ∃ m, k = m + 1 := ⟨k - 1, by omega⟩
    rw [total_cons] at hB
    simp only [List.length_cons] at hk
    rw [h k pre b rest x (by omega) h0 (by omega) hn (hok b List.mem_cons_self)]
    have e : pre ++ mk b x :: rest = (pre ++ [mk b x]) ++ rest := by simp
    have el : ((pre.length + 1 : Nat) : Int) = (((pre ++ [mk b x]).length : Nat) : Int) := by simp
    rw [e, el, mark_loop mk sz K B ok g h hf rest (pre ++ [mk b x]) k (x + sz b) (by omega) (by omega) (by simpa using hn) (fun c hc => hok c (List.mem_cons_of_mem _ hc)) (by omega), total_cons]
    congr 2
    · push_cast; omega
    · simp [markAll]

/-- A loop that holds the marks. -/
theorem held_loop {β : Type} (mk : β → Int → β) (sz : β → Nat) (K : Nat) (B : Int) (ok : β → Prop) (g : Nat → List β → Int → Int → Option Int)
    (h : ∀ k pre b rest x, K ≤ k → 0 ≤ x → x + sz b ≤ B → (pre ++ mk b x :: rest).length ≤ 140737488351232 → ok b → g (k + 1) (pre ++ mk b x :: rest) x pre.length = g k (pre ++ mk b x :: rest) (x + sz b) ((pre.length + 1 : Nat) : Int))
    (hf : ∀ k l x, K ≤ k → g (k + 1) l x l.length = some x) : ∀ (rest pre : List β) (k : Nat) (x : Int), 0 ≤ x → x + total sz rest ≤ B → (pre ++ rest).length ≤ 140737488351232 → (∀ b ∈ rest, ok b) → K + rest.length < k →
      g k (pre ++ markAll mk sz rest x) x pre.length = some (x + total sz rest)
  | [], pre, k, x, h0, hB, hn, hok, hk => by
    obtain ⟨k, rfl⟩ : ∃ m, k = m + 1 := ⟨k - 1, by omega⟩
    have := hf k pre x (by omega)
    simp only [markAll, List.append_nil]
    rw [this]
    simp [total]
  | b :: rest, pre, k, x, h0, hB, hn, hok, hk => by
    obtain ⟨k, rfl⟩ : ∃ m, k = m + 1 := ⟨k - 1, by omega⟩
    rw [total_cons] at hB
    simp only [List.length_cons] at hk
    simp only [markAll]
    have hn' : (pre ++ mk b x :: markAll mk sz rest (x + sz b)).length ≤ 140737488351232 := by
      simp only [List.length_append, List.length_cons, markAll_length] at hn ⊢
      exact hn
    rw [h k pre b _ x (by omega) h0 (by omega) hn' (hok b List.mem_cons_self)]
    have e : pre ++ mk b x :: markAll mk sz rest (x + sz b) = (pre ++ [mk b x]) ++ markAll mk sz rest (x + sz b) := by simp
    have el : ((pre.length + 1 : Nat) : Int) = (((pre ++ [mk b x]).length : Nat) : Int) := by simp
    rw [e, el, held_loop mk sz K B ok g h hf rest (pre ++ [mk b x]) k (x + sz b) (by omega) (by omega) (by simpa using hn) (fun c hc => hok c (List.mem_cons_of_mem _ hc)) (by omega), total_cons]
    congr 1
    push_cast
    omega
end Go.Proofs.Ytgindocfjoalhab.M4
