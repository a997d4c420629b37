/- The program's ValOf returns what the reference's ValOf returns, for all labels and names, and leaves its arguments alone; no conditions. -/
import Derived.Test.YtglefglknlcojaaPFnExactValOfx2
import Derived.Test.YtglefglknlcojaaM0
import Derived.Test.YtglefglknlcojaaM1
import Derived.Test.YtglefglknlcojaaM2
import Derived.Test.YtglefglknlcojaaM3
import Derived.Test.YtglefglknlcojaaM4
import Derived.Test.YtglefglknlcojaaM5
set_option linter.unusedVariables false
set_option linter.unusedSimpArgs false
namespace Go.Proofs.Ytglefglknlcojaa.Pure
open Go.RowKit Go.Proofs.Ytglefglknlcojaa.PFnExactValOf Go.Proofs.YtglefglknlcojaaW.PrintWords Go.Proofs.YtglefglknlcojaaW.PrintLast Go.Proofs.Ytglefglknlcojaa.M0 Go.Proofs.Ytglefglknlcojaa.M1 Go.Proofs.Ytglefglknlcojaa.M2 Go.Proofs.Ytglefglknlcojaa.M3 Go.Proofs.Ytglefglknlcojaa.M4 Go.Proofs.Ytglefglknlcojaa.M5

/-! ### LabS -/
def labOf (x : S80) : S81 := ⟨x.f0, x.f1⟩
def labsOf (l : List S80) : List S81 := l.map labOf
def szLab (x : S80) : Nat := x.f0.size + x.f1.size
def szL (l : List S80) : Nat := l.length + (l.map szLab).sum
/-- Sizes that Go knows. -/
def WfL (l : List S80) : Prop := l.length ≤ 9223372036854775807 ∧ ∀ x ∈ l, x.f0.size ≤ 9223372036854775807 ∧ x.f1.size ≤ 9223372036854775807
theorem labsOf_length (l : List S80) : (labsOf l).length = l.length := by simp [labsOf]
theorem len_le_szL (l : List S80) : l.length ≤ szL l := by unfold szL; omega
theorem sum_mem {α : Type} (f : α → Nat) : ∀ (l : List α) (x : α), x ∈ l → f x ≤ (l.map f).sum
  | [], x, h => by simp at h
  | a :: l, x, h => by
    rcases List.mem_cons.1 h with rfl | h
    · simp
    · have := sum_mem f l x h
      simp only [List.map_cons, List.sum_cons]
      omega
theorem laws_szLabel_eq (a b : ByteArray) (ha : a.size ≤ 9223372036854775807) (hb : b.size ≤ 9223372036854775807) (left : Int) (h0 : 0 ≤ left) (h1 : left ≤ 1048576) : laws_szLabel.f a b left = some (left' (a.size + b.size) left) := by
  unfold laws_szLabel.f
  rw [← left_add _ _ _ h0, left_of_wrap ha h0 h1 (fun t => if (wrap64 (t - (b.size : Int))) < 0 then (some (-1)) else (some (wrap64 (t - (b.size : Int)))))]
  by_cases hz : left' a.size left < 0
  · rw [if_pos hz, if_pos hz]
  · rw [if_neg hz, if_neg hz]
    have hle := left_ge h0 hz
    have e : left' a.size left = left - a.size := by unfold left'; rw [if_pos hle]
    rw [left_of_wrap hb (by omega) (by omega) (fun t => some t)]
    by_cases hy : left' b.size (left' a.size left) < 0
    · rw [if_pos hy]
      rw [left_neg_one (by omega) hy]
    · rw [if_neg hy]
theorem rdML_mem (l : List S80) (i : Int) (h0 : 0 ≤ i) (h1 : i < (l.length : Int)) : rd_T80 l i ∈ l := by
  unfold rd_T80
  rw [List.getD_eq_getElem?_getD, List.getElem?_eq_getElem (by omega)]
  exact List.getElem_mem (by omega)
theorem laws_szLabelS_eq (l : List S80) (hl : WfL l) (left : Int) (h0 : 0 ≤ left) (h1 : left ≤ 1048576) (k : Nat) (hk : 1048577 < k) :
    laws_szLabelS.f k l left = some (left' (szL l) left) := by
  unfold laws_szLabelS.f szL
  rw [left_of_wrap (n := l.length) hl.1 h0 h1 (fun t => laws_szLabelS.l0 k l t 0), ← left_add _ _ _ h0]
  by_cases hz : left' l.length left < 0
  · rw [if_pos hz, if_pos hz]
  · rw [if_neg hz, if_neg hz]
    have hle := left_ge h0 hz
    rw [budget_loop l (by omega) szLab z80 0 (fun k t i => laws_szLabelS.l0 k l t i) ?_ ?_ l.length k 0 _ (by omega) (by omega) (by omega) (left_le h1) (by omega)]
    · simp
    · intro k i left _ hi hi' hl0 hl1
      have hm := hl.2 _ (rdML_mem l i hi hi')
      simp only [laws_szLabelS.l0]
      rw [if_pos hi', if_pos hi, laws_szLabel_eq _ _ hm.1 hm.2 _ hl0 hl1]
      rfl
    · intro k left _
      simp only [laws_szLabelS.l0]
      rw [if_neg (by omega)]
theorem laws_toLabelS_eq (l : List S80) (hl : l.length ≤ 1048576) (k : Nat) (hk : 1048577 < k) : laws_toLabelS.f k l = some (labsOf l) := by
  unfold laws_toLabelS.f
  rw [if_pos (by omega), if_pos (by omega)]
  have h := fill_loop l (by omega) labOf z80 0 (fun k out i => laws_toLabelS.l0 k l out i) ?_ ?_ k z81 (by omega)
  · exact h
  · intro k i out _ hi hi' ho
    simp only [laws_toLabelS.l0]
    rw [if_pos hi', if_pos hi]
    simp only [laws_toLabel.f, Option.bind_some]
    rw [if_pos (by omega)]
    rfl
  · intro k out _
    simp only [laws_toLabelS.l0]
    rw [if_neg (by omega)]
theorem sized_labs (l : List S80) (h : szL l ≤ 1048576) : ∀ x ∈ labsOf l, x.f0.size ≤ 1048576 ∧ x.f1.size ≤ 1048576 := by
  intro x hx
  obtain ⟨y, hy, rfl⟩ := List.mem_map.1 hx
  have := sum_mem szLab l y hy
  have h1 : y.f0.size + y.f1.size ≤ (l.map szLab).sum := this
  unfold szL at h
  show y.f0.size ≤ _ ∧ y.f1.size ≤ _
  omega

/-! ### EqL -/
theorem laws_eqLabelS_refl (l : List S81) (hl : l.length ≤ 140737488351232) (k : Nat) (hk : l.length < k) : laws_eqLabelS.f k l l = some true := by
  unfold laws_eqLabelS.f
  rw [if_pos rfl]
  rw [all_loop (n := l.length) (by omega) 0 (fun _ => true) (fun k i => laws_eqLabelS.l0 k l l i) (some true) ?_ ?_ l.length k 0 (by omega) (by omega) (by omega) (by omega)]
  · rw [allFrom_true (fun _ => rfl)]; rfl
  · intro k i _ h0 h1
    simp only [laws_eqLabelS.l0]
    rw [if_pos h1, if_pos h0, if_pos h1]
    simp only [laws_eqLabel.f, Option.bind_some, if_true]
  · intro k _
    simp only [laws_eqLabelS.l0]
    rw [if_neg (by omega)]

/-! ### ValOf -/
def valHit (name : ByteArray) (x : S81) : Option (ByteArray × Bool) := if x.f0.toList = name.toList then some (x.f1, true) else none
def valOf (l : List S81) (name : ByteArray) : ByteArray × Bool := seek (valHit name) ((⟨#[]⟩ : ByteArray), false) l
theorem spec_ValOf_eq (l : List S81) (hl : l.length ≤ 140737488351232) (name : ByteArray) (k : Nat) (hk : l.length < k) : spec_ValOf.f k l name = some (valOf l name) := by
  unfold spec_ValOf.f valOf
  have h := seek_loop l hl z81 (valHit name) ((⟨#[]⟩ : ByteArray), false) 0 (fun k i => spec_ValOf.l0 k l name i) ?_ ?_ l.length k 0 (by omega) (by omega) (by omega)
  · exact h
  · intro k i _ h0 h1
    simp only [spec_ValOf.l0, valHit]
    rw [if_pos h1, if_pos h0]
    show (if (l.getD i.toNat z81).f0.toList = name.toList then _ else _) = _
    split <;> rfl
  · intro k _
    simp only [spec_ValOf.l0]
    rw [if_neg (by omega)]
theorem impl_ValOf_eq (l : List S81) (hl : l.length ≤ 140737488351232) (name : ByteArray) (k : Nat) (hk : l.length < k) : impl_ValOf.f k l name = some (valOf l name) := by
  unfold impl_ValOf.f valOf
  have h := seek_loop l hl z81 (valHit name) ((⟨#[]⟩ : ByteArray), false) 0 (fun k i => impl_ValOf.l0 k name l l.length i) ?_ ?_ l.length k 0 (by omega) (by omega) (by omega)
  · exact h
  · intro k i _ h0 h1
    simp only [impl_ValOf.l0, valHit]
    rw [if_pos h1, if_pos h0, if_pos h1]
    show (if (l.getD i.toNat z81).f0.toList = name.toList then _ else _) = _
    split <;> rfl
  · intro k _
    simp only [impl_ValOf.l0]
    rw [if_neg (by omega)]

theorem FnExactValOf (l : List S80) (name : ByteArray) (h : WfL l) (hn : name.size ≤ 9223372036854775807) : ∃ k, laws_FnExactValOf.f k l name = some true := by
  obtain ⟨m, hm⟩ : ∃ m : Nat, 4194304 < m := ⟨4194305, by omega⟩
  refine ⟨m + 1, ?_⟩
  unfold laws_FnExactValOf.f
  by_cases hs : (name.size : Int) > 1048576
  · rw [if_pos hs]
  · rw [if_neg hs, laws_szLabelS_eq l h _ (by omega) (by omega) _ (by omega)]
    simp only [Option.bind_some]
    by_cases hz : left' (szL l) 1048576 < 0
    · rw [if_pos hz]
    · rw [if_neg hz]
      have hb := left_ge (by omega) hz
      have hl : l.length ≤ 1048576 := by unfold szL at hb; omega
      have e0 := labsOf_length l
      rw [laws_toLabelS_eq l hl _ (by omega)]
      simp only [Option.bind_some]
      rw [spec_ValOf_eq _ (by omega) name _ (by omega), impl_ValOf_eq _ (by omega) name _ (by omega)]
      simp only [Option.bind_some, if_true, bne_self_eq_false, laws_FnExactValOf.j0]
      rw [laws_toLabelS_eq l hl _ (by omega)]
      simp only [Option.bind_some]
      rw [laws_eqLabelS_refl _ (by omega) _ (by omega)]
      simp

end Go.Proofs.Ytglefglknlcojaa.Pure
