/- The program's InOrder returns what the reference's InOrder returns, for all lists of texts, and leaves its argument alone; no conditions. -/
import Derived.Test.YtakidfccgebkfaaPFnExactInOrderx1
import Derived.Test.YtakidfccgebkfaaM0
import Derived.Test.YtakidfccgebkfaaM1
set_option linter.unusedVariables false
set_option linter.unusedSimpArgs false
namespace Go.Proofs.Ytakidfccgebkfaa.Pure
open Go.RowKit Go.Proofs.Ytakidfccgebkfaa.PFnExactInOrder Go.Proofs.YtakidfccgebkfaaW.PrintWords Go.Proofs.YtakidfccgebkfaaW.PrintLast Go.Proofs.Ytakidfccgebkfaa.M0 Go.Proofs.Ytakidfccgebkfaa.M1

/-! ### Strs -/
def szS (l : List ByteArray) : Nat := l.length + (l.map (fun s => s.size)).sum
theorem laws_szStringS_eq (l : List ByteArray) (hl : l.length ≤ 9223372036854775807) (hs : ∀ s ∈ l, s.size ≤ 9223372036854775807) (left : Int) (h0 : 0 ≤ left) (h1 : left ≤ 1048576) (k : Nat) (hk : 1048577 < k) :
    laws_szStringS.f k l left = some (left' (szS l) left) := by
  unfold laws_szStringS.f szS
  rw [left_of_wrap (n := l.length) hl h0 h1 (fun t => laws_szStringS.l0 k l t 0), ← left_add _ _ _ h0]
  by_cases hz : left' l.length left < 0
  · rw [if_pos hz, if_pos hz]
  · rw [if_neg hz, if_neg hz]
    have hle := left_ge h0 hz
    rw [budget_loop l (by omega) (fun s => s.size) ByteArray.empty 0 (fun k t i => laws_szStringS.l0 k l t i) ?_ ?_ l.length k 0 _ (by omega) (by omega) (by omega) (left_le h1) (by omega)]
    · simp
    · intro k i left _ hi hi' hl0 hl1
      simp only [laws_szStringS.l0]
      rw [if_pos hi', if_pos hi]
      have hj : i.toNat < l.length := by omega
      have hb : (rdOf ByteArray.empty l i).size ≤ 9223372036854775807 := by
        show (l.getD i.toNat ByteArray.empty).size ≤ _
        rw [List.getD_eq_getElem?_getD, List.getElem?_eq_getElem hj]
        exact hs _ (List.getElem_mem hj)
      exact left_of_wrap hb hl0 hl1 (fun t => laws_szStringS.l0 k l t (wrap64 (i + 1)))
    · intro k left _
      simp only [laws_szStringS.l0]
      rw [if_neg (by omega)]
theorem laws_toStringS_eq (l : List ByteArray) (hl : l.length ≤ 1048576) (k : Nat) (hk : 1048577 < k) : laws_toStringS.f k l = some l := by
  unfold laws_toStringS.f
  rw [if_pos (by omega), if_pos (by omega)]
  have h := fill_loop l (by omega) (fun s => s) ByteArray.empty 0 (fun k out i => laws_toStringS.l0 k l out i) ?_ ?_ k (⟨#[]⟩ : ByteArray) (by omega)
  · simpa using h
  · intro k i out _ hi hi' ho
    simp only [laws_toStringS.l0]
    rw [if_pos hi', if_pos hi, if_pos (by omega)]
    rfl
  · intro k out _
    simp only [laws_toStringS.l0]
    rw [if_neg (by omega)]
theorem laws_eqStringS_refl (l : List ByteArray) (hl : l.length ≤ 1048576) (k : Nat) (hk : 1048577 < k) : laws_eqStringS.f k l l = some true := by
  unfold laws_eqStringS.f
  rw [if_pos rfl]
  rw [all_loop (n := l.length) (by omega) 0 (fun _ => true) (fun k i => laws_eqStringS.l0 k l l i) (some true) ?_ ?_ l.length k 0 (by omega) (by omega) (by omega) (by omega)]
  · rw [allFrom_true (fun _ => rfl)]; rfl
  · intro k i _ h0 h1
    simp only [laws_eqStringS.l0]
    rw [if_pos h1, if_pos h0, if_pos h1]
  · intro k _
    simp only [laws_eqStringS.l0]
    rw [if_neg (by omega)]

/-! ### InOrder -/
def orderB (l : List ByteArray) (i : Int) : Bool := Op.bytesLess (rdOf ByteArray.empty l (i - 1)).toList (rdOf ByteArray.empty l i).toList
def inOrder (l : List ByteArray) : Bool := allFrom (orderB l) (l.length - 1) 1
theorem spec_InOrder_eq (l : List ByteArray) (hl : l.length ≤ 1048576) (k : Nat) (hk : l.length < k) : spec_InOrder.f k l = some (inOrder l) := by
  unfold spec_InOrder.f inOrder
  by_cases hz : l.length = 0
  · obtain ⟨k, rfl⟩ : ∃ m, k = m + 1 := ⟨k - 1, by omega⟩
    simp only [spec_InOrder.l0]
    rw [if_neg (by omega), hz]; rfl
  · rw [all_loop_from (n := l.length) (by omega) 1 (by omega) 0 (orderB l) (fun k i => spec_InOrder.l0 k l i) (some true) ?_ ?_ (l.length - 1) k 1 (by omega) (by omega) (by omega) (by omega), bool_of_if]
    · intro k i _ h0 h1
      simp only [spec_InOrder.l0]
      rw [if_pos h1, w64 (x := i - 1) (by omega) (by omega), if_pos (by omega), if_pos (by omega), if_pos (by omega)]
      simp only [spec_Less.f, Option.bind_some]; rfl
    · intro k _
      simp only [spec_InOrder.l0]
      rw [if_neg (by omega)]
theorem impl_InOrder_eq (l : List ByteArray) (hl : l.length ≤ 1048576) (k : Nat) (hk : l.length < k) : impl_InOrder.f k l = some (inOrder l) := by
  unfold impl_InOrder.f inOrder
  by_cases hz : l.length = 0
  · obtain ⟨k, rfl⟩ : ∃ m, k = m + 1 := ⟨k - 1, by omega⟩
    simp only [impl_InOrder.l0]
    rw [if_neg (by omega), hz]; rfl
  · rw [all_loop_from (n := l.length) (by omega) 1 (by omega) 0 (orderB l) (fun k i => impl_InOrder.l0 k l i) (some true) ?_ ?_ (l.length - 1) k 1 (by omega) (by omega) (by omega) (by omega), bool_of_if]
    · intro k i _ h0 h1
      simp only [impl_InOrder.l0]
      rw [if_pos h1, w64 (x := i - 1) (by omega) (by omega), if_pos (by omega), if_pos (by omega), if_pos (by omega)]
      rfl
    · intro k _
      simp only [impl_InOrder.l0]
      rw [if_neg (by omega)]

theorem FnExactInOrder (l : List ByteArray) (h : l.length ≤ 9223372036854775807 ∧ ∀ s ∈ l, s.size ≤ 9223372036854775807) : ∃ k, laws_FnExactInOrder.f k l = some true := by
  refine ⟨2097152, ?_⟩
  unfold laws_FnExactInOrder.f
  rw [laws_szStringS_eq l h.1 h.2 _ (by omega) (by omega) _ (by omega)]
  simp only [Option.bind_some]
  by_cases hz : left' (szS l) 1048576 < 0
  · rw [if_pos hz]
  · rw [if_neg hz]
    have hb := left_ge (by omega) hz
    have hl : l.length ≤ 1048576 := by unfold szS at hb; omega
    rw [laws_toStringS_eq l hl _ (by omega)]
    simp only [Option.bind_some]
    rw [spec_InOrder_eq l hl _ (by omega), impl_InOrder_eq l hl _ (by omega), laws_eqStringS_refl l hl _ (by omega)]
    simp

end Go.Proofs.Ytakidfccgebkfaa.Pure
